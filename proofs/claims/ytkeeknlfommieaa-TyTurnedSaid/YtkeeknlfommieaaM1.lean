/- slices.Index, the reference's Place; ty.Field and the reference's Field; ty.Fun and the reference's Fun. · append of a whole list onto a row of the call's own, the list nil or anywhere in memory: as one step of a region that draws its order. · The insertion sort of slices.SortStableFunc at ty.field: the shelf's contract, laid by hand. · DERIVED: THE SHELF's CONTRACTS AT THIS DUMP, IN PLAIN WORDS (tools/lay-plain.mjs out of 'TryShelf.lean', which tools/lay-shelf.mjs wrote): THE SAME DECLARATIONS UNDER THE SAME NAMES: 'import', 'namespace', 'open', 'def', 'theorem' AND NOTHING ELSE: no command of the shelf's: FOR A HAND-IN. Each laying: the table of numbers ('.._ren') and one theorem, a field a fact of the dump's own or the kernel's comparison; each contract: ONE APPLICATION. · ty.walk, ty.nodes: the iterator over a type's nodes: all of them, in order, for every loop body that keeps what l -/
import Derived.Test.YtkeeknlfommieaaM0
import Derived.Test.YtkeeknlfommieaaPFx62
import Derived.Test.YtkeeknlfommieaaPFx76
import Derived.Maps.AppendAt
import Derived.Shelf.SlSortCmp.InsertionK
import Derived.Shelf.SlSortCmp.KitK
import Derived.Test.YtkeeknlfommieaaProg
import Derived.Shelf.Small.Bits
import Derived.Shelf.Small.Strs
import Derived.Shelf.Strconv.Itoa0
import Derived.Shelf.Sort.Plain
import Derived.Shelf.Slices.Turned
import Derived.Shelf.Slices.Equal
import Derived.Shelf.Slices.CompactS
import Derived.Shelf.Slices.Cells
import Derived.Shelf.Slices.In.SortNone
import Derived.Shelf.Slices.Empties2
import Derived.RangeFuncNested
import Derived.RangeFuncBound
import Derived.RangeFuncCalls
import Derived.RangeFuncLeaves
import Derived.RangeFuncBox
import Derived.Shelf.Abstract
import Derived.Shelf.RegionOpen
import Derived.WalkKit
import Derived.OwnWalkIn
import Derived.TacticsInMore
import Derived.LoopNIn
import Derived.LoopIn
namespace Go.Proofs.Ytkeeknlfommieaa.PF
open Go.RowKit Go.Shelf Go.Proofs.YtkeeknlfommieaaW.PrintWords Go.Proofs.YtkeeknlfommieaaW.PrintLast Go.Proofs.YtkeeknlfommieaaW.PrintMore

/-- Where a text stands in a list, from place i on; -1: nowhere. -/
noncomputable def placeS (s : ByteArray) : List ByteArray → Nat → Int
  | [], _ => -1
  | x :: l, i => if eqB x s = true then (i : Int) else placeS s l (i + 1)
theorem placeS_drop (s : ByteArray) (l : List ByteArray) (i : Nat) (h : i < l.length) : placeS s (l.drop i) i = if l[i] = s then (i : Int) else placeS s (l.drop (i + 1)) (i + 1) := by
  rw [drop_head l i h, placeS]
  by_cases e : l[i] = s
  · rw [if_pos (eqB_iff.2 e), if_pos e]
  · rw [if_neg (fun h => e (eqB_iff.1 h)), if_neg e]
theorem placeS_range (s : ByteArray) (l : List ByteArray) : ∀ i : Nat, placeS s l i = -1 ∨ ((i : Int) ≤ placeS s l i ∧ placeS s l i < (i : Int) + l.length) := by
  induction l with
  | nil => intro i; exact .inl rfl
  | cons x l ih =>
    intro i
    rw [placeS]
    split
    · exact .inr ⟨by omega, by simp; omega⟩
    · rcases ih (i + 1) with h | h
      · exact .inl h
      · exact .inr ⟨by omega, by simp; omega⟩
theorem index_l0 (l : List ByteArray) (s : ByteArray) (hl : l.length ≤ 9223372036854775807) : ∀ (d i k : Nat), i + d = l.length → d < k → slices_Index_string_string.l0 k l s (l.length : Int) i = some (placeS s (l.drop i) i) := by
  intro d
  induction d with
  | zero =>
    intro i k hi hk
    obtain ⟨k, rfl⟩ : ∃ q, k = q + 1 := ⟨k - 1, by omega⟩
    rw [slices_Index_string_string.l0, if_neg (by omega), List.drop_eq_nil_of_le (by omega)]
    rfl
  | succ d ih =>
    intro i k hi hk
    obtain ⟨k, rfl⟩ : ∃ q, k = q + 1 := ⟨k - 1, by omega⟩
    rw [slices_Index_string_string.l0, if_pos (by omega), if_pos (by omega), if_pos (by omega), rdS_getElem l i (by omega), placeS_drop s l i (by omega)]
    by_cases e : l[i] = s
    · rw [if_pos (by rw [e]), if_pos e]
    · rw [if_neg (fun h => e (bytes_ext h).symm), if_neg e, show wrap64 ((i : Int) + 1) = ((i + 1 : Nat) : Int) from by unfold wrap64; omega, ih (i + 1) k (by omega) (by omega)]
theorem place_l0 (l : List ByteArray) (s : ByteArray) (hl : l.length ≤ 9223372036854775807) : ∀ (d i k : Nat), i + d = l.length → d < k → limbeckref01_Place.l0 k l s i = some (placeS s (l.drop i) i) := by
  intro d
  induction d with
  | zero =>
    intro i k hi hk
    obtain ⟨k, rfl⟩ : ∃ q, k = q + 1 := ⟨k - 1, by omega⟩
    rw [limbeckref01_Place.l0, if_neg (by omega), List.drop_eq_nil_of_le (by omega)]
    rfl
  | succ d ih =>
    intro i k hi hk
    obtain ⟨k, rfl⟩ : ∃ q, k = q + 1 := ⟨k - 1, by omega⟩
    rw [limbeckref01_Place.l0, if_pos (by omega), if_pos (by omega), rdS_getElem l i (by omega), placeS_drop s l i (by omega)]
    by_cases e : l[i] = s
    · rw [if_pos (by rw [e]), if_pos e]
    · rw [if_neg (fun h => e (bytes_ext h)), if_neg e, show wrap64 ((i : Int) + 1) = ((i + 1 : Nat) : Int) from by unfold wrap64; omega, ih (i + 1) k (by omega) (by omega)]
theorem index_calls (A0 : Option Addr) (c0 : Nat) (l0 : List ByteArray) (s : ByteArray) (w : World) (hr0 : Kd.C Kd.string w A0 l0.length l0) (hc0 : l0.length ≤ c0) :
    Calls Try.prog 77 #[.slice A0 l0.length c0, .string s] w fun e w' => e = .returned (.int .i64 (placeS s l0 0)) ∧ Below w.heap.size w w' :=
  (slices_Index_string_string.calls (l0.length + 1) A0 c0 l0 s _ w hr0 hc0 (by unfold slices_Index_string_string.f; simpa using index_l0 l0 s hr0.2.1 l0.length 0 (l0.length + 1) (by omega) (by omega))).mono fun e w' ⟨he, hd⟩ => ⟨he, hd.below⟩
theorem place_calls (A0 : Option Addr) (c0 : Nat) (l0 : List ByteArray) (s : ByteArray) (w : World) (hr0 : Kd.C Kd.string w A0 l0.length l0) (hc0 : l0.length ≤ c0) :
    Calls Try.prog 57 #[.slice A0 l0.length c0, .string s] w fun e w' => e = .returned (.int .i64 (placeS s l0 0)) ∧ Below w.heap.size w w' :=
  (limbeckref01_Place.calls (l0.length + 1) A0 c0 l0 s _ w hr0 hc0 (by unfold limbeckref01_Place.f; simpa using place_l0 l0 s hr0.2.1 l0.length 0 (l0.length + 1) (by omega) (by omega))).mono fun e w' ⟨he, hd⟩ => ⟨he, hd.below⟩

/-- A field's type. -/
noncomputable def fieldT (t : S26) (s : ByteArray) : S26 × Bool :=
  if t.f0 = 8 ∧ 0 ≤ placeS s t.f3 0 ∧ placeS s t.f3 0 < t.f4.length then (t.f4.getD (placeS s t.f3 0).toNat z26, true) else (z26, false)
theorem put5 {W : World} {g : Nat} {t : TypeId} {a0 a1 a2 a3 a4 b0 b1 b2 b3 b4 : Value} (h : W.heap[g]? = some (.cells #[a0, a1, a2, a3, a4] t (0, 0))) :
    (((((W.setCell ⟨g, 0, none⟩ b0).setCell ⟨g, 1, none⟩ b1).setCell ⟨g, 2, none⟩ b2).setCell ⟨g, 3, none⟩ b3).setCell ⟨g, 4, none⟩ b4).heap[g]? = some (.cells #[b0, b1, b2, b3, b4] t (0, 0)) :=
  blk_put (blk_put (blk_put (blk_put (blk_put h 0 _ rfl) 1 _ rfl) 2 _ rfl) 3 _ rfl) 4 _ rfl
theorem below5 {n g : Nat} {w W : World} {b0 b1 b2 b3 b4 : Value} (h : Below n w W) (hg : n ≤ g) : Below n w (((((W.setCell ⟨g, 0, none⟩ b0).setCell ⟨g, 1, none⟩ b1).setCell ⟨g, 2, none⟩ b2).setCell ⟨g, 3, none⟩ b3).setCell ⟨g, 4, none⟩ b4) :=
  ((((h.setCell (p := ⟨g, 0, none⟩) hg _).setCell (p := ⟨g, 1, none⟩) hg _).setCell (p := ⟨g, 2, none⟩) hg _).setCell (p := ⟨g, 3, none⟩) hg _).setCell (p := ⟨g, 4, none⟩) hg _
theorem RT_z (w : World) : RT w (.agg #[.int .i64 0, .int .i64 0, .string ⟨#[]⟩, .slice none 0 0, .slice none 0 0]) z26 := ⟨none, 0, none, 0, rfl, Nat.le_refl _, Kd.C_nil _ _, Nat.le_refl _, Kd.C_nil _ _⟩
theorem info26s : (Try.prog.info? 26).map (·.size) = some 5 := by kernel_rfl

set_option maxRecDepth 100000 in
set_option maxHeartbeats 1000000 in
theorem field_calls (t : S26) (s : ByteArray) (w : World) (A3 : Option Addr) (c3 : Nat) (A4 : Option Addr) (c4 : Nat) (l3 : t.f3.length ≤ c3) (g3 : Kd.string.C w A3 t.f3.length t.f3) (g4 : k26.C w A4 t.f4.length t.f4) :
    Calls Try.prog 42 #[.agg #[.int .i64 t.f0, .int .i64 t.f1, .string t.f2, .slice A3 t.f3.length c3, .slice A4 t.f4.length c4], .string s] w fun e w' => (∃ v, e = .returned (.tuple #[v, .bool (fieldT t s).2]) ∧ RT w' v (fieldT t s).1) ∧ Below w.heap.size w w' := by
  obtain ⟨p, hp⟩ : ∃ p, placeS s t.f3 0 = p := ⟨_, rfl⟩
  have HP := Aside0.mk hp
  have HC := Aside0.mk (fun (W : World) (hb : Below w.heap.size w W) => index_calls A3 c3 t.f3 s W (Kd.C_below g3 hb) l3)
  have HG4 := Aside0.mk g4
  clear l3 g3 g4 hp
  have H2 := Aside0.mk (fun o o' => below_alloc (below_alloc (Below.refl w.heap.size w) o) o')
  by_cases h : t.f0 = 8 ∧ 0 ≤ p ∧ p < (t.f4.length : Int)
  · obtain ⟨h8, hp0, hp1⟩ := h
    have h8' : (t.f0 != 8) = false := by rw [bne_eq_false_iff_eq]; exact h8
    obtain ⟨j, rfl⟩ := Int.eq_ofNat_of_zero_le hp0
    have hj : j < t.f4.length := by omega
    obtain ⟨ad, B3, d3, B4, d4, e, h0, h1, h2, h3, h4, m3, f3, m4, f4⟩ := el26 HG4.out j hj
    cases e
    have HX := Aside0.mk (show fieldT t s = (t.f4[j], true) from by
      unfold fieldT; rw [HP.out, if_pos ⟨h8, hp0, hp1⟩, Int.toNat_natCast, List.getD_eq_getElem?_getD, List.getElem?_eq_getElem hj, Option.getD_some])
    have HRD := Aside0.mk (show ∀ W, Below w.heap.size w W → RT W (.agg #[.int .i64 t.f4[j].f0, .int .i64 t.f4[j].f1, .string t.f4[j].f2, .slice B3 t.f4[j].f3.length d3, .slice B4 t.f4[j].f4.length d4]) t.f4[j] from fun W hb => ⟨B3, d3, B4, d4, rfl, m3, Kd.C_below f3 hb, m4, Kd.C_below f4 hb⟩)
    have hblk : (ad.add (j * 5)).block < w.heap.size := World.block_lt_of_cell? w _ h0
    generalize t.f4[j] = y at *
    have HLT := Aside0.mk hj
    clear h8 m3 f3 m4 f4 hp0 hj
    have hp0 : (0 : Int) ≤ (j : Int) := by omega
    go_enter Try.func42, Try.ntmps42
    go_wp2_with (go_at_call 77; refine (HC.out _ (H2.out _ _)).mono ?_; rw [HP.out]; rintro e w1 ⟨rfl, hbw⟩; obtain ⟨hcell, hfroz⟩ := bcell hbw; have HW1 := Aside0.mk ((H2.out _ _).trans (hbw.mono (by simp; omega))); have hz1 : w.heap.size + 1 < w1.heap.size := (by have h_ := hbw.size; simp only [World.size_alloc] at h_; omega); have hz0 : w.heap.size < w1.heap.size := Nat.lt_of_succ_lt hz1; have HBO := Aside0.mk (show w1.heap[w.heap.size + 1]? = some (.cells #[.int .i64 0, .int .i64 0, .string ⟨#[]⟩, .slice none 0 0, .slice none 0 0] 26 (0, 0)) from (by have h_ := blk_below (blk_new _ _) hbw; simpa using h_)); clear hbw; have e0 := pw_cell_below HW1.out h0; have e1 := pw_cell_below HW1.out h1; have e2 := pw_cell_below HW1.out h2; have e3 := pw_cell_below HW1.out h3; have e4 := pw_cell_below HW1.out h4)
    refine bodyPost_ret (results_ct rfl _ _ (w.heap.size + 1) 26 _ (0, 0) _ rfl (put5 HBO.out) Try.underlying26 rfl (by kernel_rfl)) rfl ?_
    rw [HX.out]
    exact ⟨⟨_, rfl, HRD.out _ (below5 HW1.out (by omega))⟩, below5 HW1.out (by omega)⟩
  · have HX := Aside0.mk (show fieldT t s = (z26, false) from by unfold fieldT; rw [HP.out, if_neg h])
    by_cases h8 : t.f0 = 8
    · have h8' : (t.f0 != 8) = false := by rw [bne_eq_false_iff_eq]; exact h8
      have hpp : p < 0 ∨ (0 ≤ p ∧ (t.f4.length : Int) ≤ p) := by omega
      clear h h8
      rcases hpp with hp | ⟨hp, hp2⟩
      · go_enter Try.func42, Try.ntmps42
        go_wp2_with (go_at_call 77; refine (HC.out _ (H2.out _ _)).mono ?_; rw [HP.out]; rintro e w1 ⟨rfl, hbw⟩; obtain ⟨hcell, hfroz⟩ := bcell hbw; have HW1 := Aside0.mk ((H2.out _ _).trans (hbw.mono (by simp; omega))); have hz1 : w.heap.size + 1 < w1.heap.size := (by have h_ := hbw.size; simp only [World.size_alloc] at h_; omega); have hz0 : w.heap.size < w1.heap.size := Nat.lt_of_succ_lt hz1; have HBO := Aside0.mk (show w1.heap[w.heap.size + 1]? = some (.cells #[.int .i64 0, .int .i64 0, .string ⟨#[]⟩, .slice none 0 0, .slice none 0 0] 26 (0, 0)) from (by have h_ := blk_below (blk_new _ _) hbw; simpa using h_)); clear hbw)
        (refine bodyPost_ret (results_ct rfl _ _ (w.heap.size + 1) 26 _ (0, 0) _ rfl (put5 HBO.out) Try.underlying26 rfl (by kernel_rfl)) rfl ?_; rw [HX.out]; exact ⟨⟨_, rfl, RT_z _⟩, below5 HW1.out (by omega)⟩)
      · go_enter Try.func42, Try.ntmps42
        go_wp2_with (go_at_call 77; refine (HC.out _ (H2.out _ _)).mono ?_; rw [HP.out]; rintro e w1 ⟨rfl, hbw⟩; obtain ⟨hcell, hfroz⟩ := bcell hbw; have HW1 := Aside0.mk ((H2.out _ _).trans (hbw.mono (by simp; omega))); have hz1 : w.heap.size + 1 < w1.heap.size := (by have h_ := hbw.size; simp only [World.size_alloc] at h_; omega); have hz0 : w.heap.size < w1.heap.size := Nat.lt_of_succ_lt hz1; have HBO := Aside0.mk (show w1.heap[w.heap.size + 1]? = some (.cells #[.int .i64 0, .int .i64 0, .string ⟨#[]⟩, .slice none 0 0, .slice none 0 0] 26 (0, 0)) from (by have h_ := blk_below (blk_new _ _) hbw; simpa using h_)); clear hbw)
        (refine bodyPost_ret (results_ct rfl _ _ (w.heap.size + 1) 26 _ (0, 0) _ rfl (put5 HBO.out) Try.underlying26 rfl (by kernel_rfl)) rfl ?_; rw [HX.out]; exact ⟨⟨_, rfl, RT_z _⟩, below5 HW1.out (by omega)⟩)
    · have h8' : (t.f0 != 8) = true := by rw [bne_iff_ne]; exact h8
      clear h h8
      go_enter Try.func42, Try.ntmps42
      go_wp2_with (go_at_call 77; refine (HC.out _ (H2.out _ _)).mono ?_; rw [HP.out]; rintro e w1 ⟨rfl, hbw⟩; obtain ⟨hcell, hfroz⟩ := bcell hbw; have HW1 := Aside0.mk ((H2.out _ _).trans (hbw.mono (by simp; omega))); have hz1 : w.heap.size + 1 < w1.heap.size := (by have h_ := hbw.size; simp only [World.size_alloc] at h_; omega); have hz0 : w.heap.size < w1.heap.size := Nat.lt_of_succ_lt hz1; have HBO := Aside0.mk (show w1.heap[w.heap.size + 1]? = some (.cells #[.int .i64 0, .int .i64 0, .string ⟨#[]⟩, .slice none 0 0, .slice none 0 0] 26 (0, 0)) from (by have h_ := blk_below (blk_new _ _) hbw; simpa using h_)); clear hbw)
      (refine bodyPost_ret (results_ct rfl _ _ (w.heap.size + 1) 26 _ (0, 0) _ rfl (put5 HBO.out) Try.underlying26 rfl (by kernel_rfl)) rfl ?_; rw [HX.out]; exact ⟨⟨_, rfl, RT_z _⟩, below5 HW1.out (by omega)⟩)
set_option maxRecDepth 100000 in
set_option maxHeartbeats 1000000 in
theorem rfield_calls (t : S26) (s : ByteArray) (w : World) (A3 : Option Addr) (c3 : Nat) (A4 : Option Addr) (c4 : Nat) (l3 : t.f3.length ≤ c3) (g3 : Kd.string.C w A3 t.f3.length t.f3) (g4 : k26.C w A4 t.f4.length t.f4) :
    Calls Try.prog 43 #[.agg #[.int .i64 t.f0, .int .i64 t.f1, .string t.f2, .slice A3 t.f3.length c3, .slice A4 t.f4.length c4], .string s] w fun e w' => (∃ v, e = .returned (.tuple #[v, .bool (fieldT t s).2]) ∧ RT w' v (fieldT t s).1) ∧ Below w.heap.size w w' := by
  obtain ⟨p, hp⟩ : ∃ p, placeS s t.f3 0 = p := ⟨_, rfl⟩
  have HP := Aside0.mk hp
  have HC := Aside0.mk (fun (W : World) (hb : Below w.heap.size w W) => place_calls A3 c3 t.f3 s W (Kd.C_below g3 hb) l3)
  have HG4 := Aside0.mk g4
  clear l3 g3 g4 hp
  have H2 := Aside0.mk (fun o o' => below_alloc (below_alloc (Below.refl w.heap.size w) o) o')
  by_cases h : t.f0 = 8 ∧ 0 ≤ p ∧ p < (t.f4.length : Int)
  · obtain ⟨h8, hp0, hp1⟩ := h
    have h8' : (t.f0 != 8) = false := by rw [bne_eq_false_iff_eq]; exact h8
    obtain ⟨j, rfl⟩ := Int.eq_ofNat_of_zero_le hp0
    have hj : j < t.f4.length := by omega
    obtain ⟨ad, B3, d3, B4, d4, e, h0, h1, h2, h3, h4, m3, f3, m4, f4⟩ := el26 HG4.out j hj
    cases e
    have HX := Aside0.mk (show fieldT t s = (t.f4[j], true) from by
      unfold fieldT; rw [HP.out, if_pos ⟨h8, hp0, hp1⟩, Int.toNat_natCast, List.getD_eq_getElem?_getD, List.getElem?_eq_getElem hj, Option.getD_some])
    have HRD := Aside0.mk (show ∀ W, Below w.heap.size w W → RT W (.agg #[.int .i64 t.f4[j].f0, .int .i64 t.f4[j].f1, .string t.f4[j].f2, .slice B3 t.f4[j].f3.length d3, .slice B4 t.f4[j].f4.length d4]) t.f4[j] from fun W hb => ⟨B3, d3, B4, d4, rfl, m3, Kd.C_below f3 hb, m4, Kd.C_below f4 hb⟩)
    have hblk : (ad.add (j * 5)).block < w.heap.size := World.block_lt_of_cell? w _ h0
    generalize t.f4[j] = y at *
    have HLT := Aside0.mk hj
    clear h8 m3 f3 m4 f4 hp0 hj
    have hp0 : (0 : Int) ≤ (j : Int) := by omega
    go_enter Try.func43, Try.ntmps43
    go_wp2_with (go_at_call 57; refine (HC.out _ (H2.out _ _)).mono ?_; rw [HP.out]; rintro e w1 ⟨rfl, hbw⟩; obtain ⟨hcell, hfroz⟩ := bcell hbw; have HW1 := Aside0.mk ((H2.out _ _).trans (hbw.mono (by simp; omega))); have hz1 : w.heap.size + 1 < w1.heap.size := (by have h_ := hbw.size; simp only [World.size_alloc] at h_; omega); have hz0 : w.heap.size < w1.heap.size := Nat.lt_of_succ_lt hz1; have HBO := Aside0.mk (show w1.heap[w.heap.size + 1]? = some (.cells #[.int .i64 0, .int .i64 0, .string ⟨#[]⟩, .slice none 0 0, .slice none 0 0] 26 (0, 0)) from (by have h_ := blk_below (blk_new _ _) hbw; simpa using h_)); clear hbw; have e0 := pw_cell_below HW1.out h0; have e1 := pw_cell_below HW1.out h1; have e2 := pw_cell_below HW1.out h2; have e3 := pw_cell_below HW1.out h3; have e4 := pw_cell_below HW1.out h4)
    refine bodyPost_ret (results_ct rfl _ _ (w.heap.size + 1) 26 _ (0, 0) _ rfl (put5 HBO.out) Try.underlying26 rfl (by kernel_rfl)) rfl ?_
    rw [HX.out]
    exact ⟨⟨_, rfl, HRD.out _ (below5 HW1.out (by omega))⟩, below5 HW1.out (by omega)⟩
  · have HX := Aside0.mk (show fieldT t s = (z26, false) from by unfold fieldT; rw [HP.out, if_neg h])
    by_cases h8 : t.f0 = 8
    · have h8' : (t.f0 != 8) = false := by rw [bne_eq_false_iff_eq]; exact h8
      have hpp : p < 0 ∨ (0 ≤ p ∧ (t.f4.length : Int) ≤ p) := by omega
      clear h h8
      rcases hpp with hp | ⟨hp, hp2⟩
      · go_enter Try.func43, Try.ntmps43
        go_wp2_with (go_at_call 57; refine (HC.out _ (H2.out _ _)).mono ?_; rw [HP.out]; rintro e w1 ⟨rfl, hbw⟩; obtain ⟨hcell, hfroz⟩ := bcell hbw; have HW1 := Aside0.mk ((H2.out _ _).trans (hbw.mono (by simp; omega))); have hz1 : w.heap.size + 1 < w1.heap.size := (by have h_ := hbw.size; simp only [World.size_alloc] at h_; omega); have hz0 : w.heap.size < w1.heap.size := Nat.lt_of_succ_lt hz1; have HBO := Aside0.mk (show w1.heap[w.heap.size + 1]? = some (.cells #[.int .i64 0, .int .i64 0, .string ⟨#[]⟩, .slice none 0 0, .slice none 0 0] 26 (0, 0)) from (by have h_ := blk_below (blk_new _ _) hbw; simpa using h_)); clear hbw)
        (refine bodyPost_ret (results_ct rfl _ _ (w.heap.size + 1) 26 _ (0, 0) _ rfl (put5 HBO.out) Try.underlying26 rfl (by kernel_rfl)) rfl ?_; rw [HX.out]; exact ⟨⟨_, rfl, RT_z _⟩, below5 HW1.out (by omega)⟩)
      · go_enter Try.func43, Try.ntmps43
        go_wp2_with (go_at_call 57; refine (HC.out _ (H2.out _ _)).mono ?_; rw [HP.out]; rintro e w1 ⟨rfl, hbw⟩; obtain ⟨hcell, hfroz⟩ := bcell hbw; have HW1 := Aside0.mk ((H2.out _ _).trans (hbw.mono (by simp; omega))); have hz1 : w.heap.size + 1 < w1.heap.size := (by have h_ := hbw.size; simp only [World.size_alloc] at h_; omega); have hz0 : w.heap.size < w1.heap.size := Nat.lt_of_succ_lt hz1; have HBO := Aside0.mk (show w1.heap[w.heap.size + 1]? = some (.cells #[.int .i64 0, .int .i64 0, .string ⟨#[]⟩, .slice none 0 0, .slice none 0 0] 26 (0, 0)) from (by have h_ := blk_below (blk_new _ _) hbw; simpa using h_)); clear hbw)
        (refine bodyPost_ret (results_ct rfl _ _ (w.heap.size + 1) 26 _ (0, 0) _ rfl (put5 HBO.out) Try.underlying26 rfl (by kernel_rfl)) rfl ?_; rw [HX.out]; exact ⟨⟨_, rfl, RT_z _⟩, below5 HW1.out (by omega)⟩)
    · have h8' : (t.f0 != 8) = true := by rw [bne_iff_ne]; exact h8
      clear h h8
      go_enter Try.func43, Try.ntmps43
      go_wp2_with (go_at_call 57; refine (HC.out _ (H2.out _ _)).mono ?_; rw [HP.out]; rintro e w1 ⟨rfl, hbw⟩; obtain ⟨hcell, hfroz⟩ := bcell hbw; have HW1 := Aside0.mk ((H2.out _ _).trans (hbw.mono (by simp; omega))); have hz1 : w.heap.size + 1 < w1.heap.size := (by have h_ := hbw.size; simp only [World.size_alloc] at h_; omega); have hz0 : w.heap.size < w1.heap.size := Nat.lt_of_succ_lt hz1; have HBO := Aside0.mk (show w1.heap[w.heap.size + 1]? = some (.cells #[.int .i64 0, .int .i64 0, .string ⟨#[]⟩, .slice none 0 0, .slice none 0 0] 26 (0, 0)) from (by have h_ := blk_below (blk_new _ _) hbw; simpa using h_)); clear hbw)
      (refine bodyPost_ret (results_ct rfl _ _ (w.heap.size + 1) 26 _ (0, 0) _ rfl (put5 HBO.out) Try.underlying26 rfl (by kernel_rfl)) rfl ?_; rw [HX.out]; exact ⟨⟨_, rfl, RT_z _⟩, below5 HW1.out (by omega)⟩)

def funT (a b : S26) : S26 := ⟨7, 0, ⟨#[]⟩, [], [a, b]⟩
/-- Two types in a new row. -/
theorem c26_two {W : World} {g : Nat} {a b : S26} {A3 : Option Addr} {c3 : Nat} {A4 : Option Addr} {c4 : Nat} {B3 : Option Addr} {d3 : Nat} {B4 : Option Addr} {d4 : Nat}
    (h : W.heap[g]? = some (.cells #[.int .i64 a.f0, .int .i64 a.f1, .string a.f2, .slice A3 a.f3.length c3, .slice A4 a.f4.length c4, .int .i64 b.f0, .int .i64 b.f1, .string b.f2, .slice B3 b.f3.length d3, .slice B4 b.f4.length d4] 26 (0, 0)))
    (l3 : a.f3.length ≤ c3) (g3 : Kd.string.C W A3 a.f3.length a.f3) (l4 : a.f4.length ≤ c4) (g4 : k26.C W A4 a.f4.length a.f4) (m3 : b.f3.length ≤ d3) (f3 : Kd.string.C W B3 b.f3.length b.f3) (m4 : b.f4.length ≤ d4) (f4 : k26.C W B4 b.f4.length b.f4) :
    k26.C W (some ⟨g, 0, none⟩) [a, b].length [a, b] := by
  refine ⟨rfl, by simp, fun _ => ⟨_, rfl, fun j p hj => ?_⟩⟩
  have hadd : ∀ m, (⟨g, 0, none⟩ : Addr).add m = ⟨g, m, none⟩ := fun m => add_plain g m
  match j, hj with
  | 0, hj =>
    cases hj
    refine ⟨_, rfl, k26_mk W a l3 g3 l4 g4, fun i u hu => ?_⟩
    rw [hadd, blk_cell h]
    match i, hu with
    | 0, hu => exact hu
    | 1, hu => exact hu
    | 2, hu => exact hu
    | 3, hu => exact hu
    | 4, hu => exact hu
  | 1, hj =>
    cases hj
    refine ⟨_, rfl, k26_mk W b m3 f3 m4 f4, fun i u hu => ?_⟩
    rw [hadd, blk_cell h]
    match i, hu with
    | 0, hu => exact hu
    | 1, hu => exact hu
    | 2, hu => exact hu
    | 3, hu => exact hu
    | 4, hu => exact hu

set_option maxRecDepth 100000 in
set_option maxHeartbeats 1000000 in
theorem fun_calls (a b : S26) (w : World) (A3 : Option Addr) (c3 : Nat) (A4 : Option Addr) (c4 : Nat) (B3 : Option Addr) (d3 : Nat) (B4 : Option Addr) (d4 : Nat) (l3 : a.f3.length ≤ c3) (g3 : Kd.string.C w A3 a.f3.length a.f3) (l4 : a.f4.length ≤ c4) (g4 : k26.C w A4 a.f4.length a.f4) (m3 : b.f3.length ≤ d3) (f3 : Kd.string.C w B3 b.f3.length b.f3) (m4 : b.f4.length ≤ d4) (f4 : k26.C w B4 b.f4.length b.f4) :
    Calls Try.prog 44 #[.agg #[.int .i64 a.f0, .int .i64 a.f1, .string a.f2, .slice A3 a.f3.length c3, .slice A4 a.f4.length c4], .agg #[.int .i64 b.f0, .int .i64 b.f1, .string b.f2, .slice B3 b.f3.length d3, .slice B4 b.f4.length d4]] w fun e w' => (∃ v, e = .returned v ∧ RT w' v (funT a b)) ∧ Below w.heap.size w w' := by
  have HR := Aside0.mk (fun (W : World) (hb : Below w.heap.size w W) (g : Nat) h => c26_two (W := W) (g := g) h l3 (Kd.C_below g3 hb) l4 (Kd.C_below g4 hb) m3 (Kd.C_below f3 hb) m4 (Kd.C_below f4 hb))
  clear l3 g3 l4 g4 m3 f3 m4 f4
  go_enter Try.func44, Try.ntmps44
  go_wp2
  have hres := blk_alloc (blk_new ((w.alloc (.cells #[.int .i64 a.f0, .int .i64 a.f1, .string a.f2, .slice A3 a.f3.length c3, .slice A4 a.f4.length c4] 26)).alloc (.cells #[.int .i64 b.f0, .int .i64 b.f1, .string b.f2, .slice B3 b.f3.length d3, .slice B4 b.f4.length d4] 26)) (.cells #[.int .i64 7, .int .i64 0, .string ⟨#[]⟩, .slice none 0 0, .slice (some ⟨w.heap.size + 1 + 1 + 1, 0, none⟩) 2 2] 26)) (.cells #[.int .i64 a.f0, .int .i64 a.f1, .string a.f2, .slice A3 a.f3.length c3, .slice A4 a.f4.length c4, .int .i64 b.f0, .int .i64 b.f1, .string b.f2, .slice B3 b.f3.length d3, .slice B4 b.f4.length d4] 26)
  have harr := blk_new (((w.alloc (.cells #[.int .i64 a.f0, .int .i64 a.f1, .string a.f2, .slice A3 a.f3.length c3, .slice A4 a.f4.length c4] 26)).alloc (.cells #[.int .i64 b.f0, .int .i64 b.f1, .string b.f2, .slice B3 b.f3.length d3, .slice B4 b.f4.length d4] 26)).alloc (.cells #[.int .i64 7, .int .i64 0, .string ⟨#[]⟩, .slice none 0 0, .slice (some ⟨w.heap.size + 1 + 1 + 1, 0, none⟩) 2 2] 26)) (.cells #[.int .i64 a.f0, .int .i64 a.f1, .string a.f2, .slice A3 a.f3.length c3, .slice A4 a.f4.length c4, .int .i64 b.f0, .int .i64 b.f1, .string b.f2, .slice B3 b.f3.length d3, .slice B4 b.f4.length d4] 26)
  simp only [World.size_alloc] at hres harr
  have hB : Below w.heap.size w _ := below_alloc (below_alloc (below_alloc (below_alloc (Below.refl w.heap.size w) (.cells #[.int .i64 a.f0, .int .i64 a.f1, .string a.f2, .slice A3 a.f3.length c3, .slice A4 a.f4.length c4] 26)) (.cells #[.int .i64 b.f0, .int .i64 b.f1, .string b.f2, .slice B3 b.f3.length d3, .slice B4 b.f4.length d4] 26)) (.cells #[.int .i64 7, .int .i64 0, .string ⟨#[]⟩, .slice none 0 0, .slice (some ⟨w.heap.size + 1 + 1 + 1, 0, none⟩) 2 2] 26)) (.cells #[.int .i64 a.f0, .int .i64 a.f1, .string a.f2, .slice A3 a.f3.length c3, .slice A4 a.f4.length c4, .int .i64 b.f0, .int .i64 b.f1, .string b.f2, .slice B3 b.f3.length d3, .slice B4 b.f4.length d4] 26)
  refine bodyPost_ret (results_single rfl (.cell (w.heap.size + 1 + 1) 26 _ (0, 0) _ rfl hres Try.underlying26 rfl (by kernel_rfl) .nil)) rfl ?_
  exact ⟨⟨_, rfl, none, 0, _, 2, rfl, Nat.le_refl _, Kd.C_nil _ _, Nat.le_refl _, HR.out _ hB _ harr⟩, hB⟩
set_option maxRecDepth 100000 in
set_option maxHeartbeats 1000000 in
theorem rfun_calls (a b : S26) (w : World) (A3 : Option Addr) (c3 : Nat) (A4 : Option Addr) (c4 : Nat) (B3 : Option Addr) (d3 : Nat) (B4 : Option Addr) (d4 : Nat) (l3 : a.f3.length ≤ c3) (g3 : Kd.string.C w A3 a.f3.length a.f3) (l4 : a.f4.length ≤ c4) (g4 : k26.C w A4 a.f4.length a.f4) (m3 : b.f3.length ≤ d3) (f3 : Kd.string.C w B3 b.f3.length b.f3) (m4 : b.f4.length ≤ d4) (f4 : k26.C w B4 b.f4.length b.f4) :
    Calls Try.prog 45 #[.agg #[.int .i64 a.f0, .int .i64 a.f1, .string a.f2, .slice A3 a.f3.length c3, .slice A4 a.f4.length c4], .agg #[.int .i64 b.f0, .int .i64 b.f1, .string b.f2, .slice B3 b.f3.length d3, .slice B4 b.f4.length d4]] w fun e w' => (∃ v, e = .returned v ∧ RT w' v (funT a b)) ∧ Below w.heap.size w w' := by
  have HR := Aside0.mk (fun (W : World) (hb : Below w.heap.size w W) (g : Nat) h => c26_two (W := W) (g := g) h l3 (Kd.C_below g3 hb) l4 (Kd.C_below g4 hb) m3 (Kd.C_below f3 hb) m4 (Kd.C_below f4 hb))
  clear l3 g3 l4 g4 m3 f3 m4 f4
  go_enter Try.func45, Try.ntmps45
  go_wp2
  have hres := blk_alloc (blk_new ((w.alloc (.cells #[.int .i64 a.f0, .int .i64 a.f1, .string a.f2, .slice A3 a.f3.length c3, .slice A4 a.f4.length c4] 26)).alloc (.cells #[.int .i64 b.f0, .int .i64 b.f1, .string b.f2, .slice B3 b.f3.length d3, .slice B4 b.f4.length d4] 26)) (.cells #[.int .i64 7, .int .i64 0, .string ⟨#[]⟩, .slice none 0 0, .slice (some ⟨w.heap.size + 1 + 1 + 1, 0, none⟩) 2 2] 26)) (.cells #[.int .i64 a.f0, .int .i64 a.f1, .string a.f2, .slice A3 a.f3.length c3, .slice A4 a.f4.length c4, .int .i64 b.f0, .int .i64 b.f1, .string b.f2, .slice B3 b.f3.length d3, .slice B4 b.f4.length d4] 26)
  have harr := blk_new (((w.alloc (.cells #[.int .i64 a.f0, .int .i64 a.f1, .string a.f2, .slice A3 a.f3.length c3, .slice A4 a.f4.length c4] 26)).alloc (.cells #[.int .i64 b.f0, .int .i64 b.f1, .string b.f2, .slice B3 b.f3.length d3, .slice B4 b.f4.length d4] 26)).alloc (.cells #[.int .i64 7, .int .i64 0, .string ⟨#[]⟩, .slice none 0 0, .slice (some ⟨w.heap.size + 1 + 1 + 1, 0, none⟩) 2 2] 26)) (.cells #[.int .i64 a.f0, .int .i64 a.f1, .string a.f2, .slice A3 a.f3.length c3, .slice A4 a.f4.length c4, .int .i64 b.f0, .int .i64 b.f1, .string b.f2, .slice B3 b.f3.length d3, .slice B4 b.f4.length d4] 26)
  simp only [World.size_alloc] at hres harr
  have hB : Below w.heap.size w _ := below_alloc (below_alloc (below_alloc (below_alloc (Below.refl w.heap.size w) (.cells #[.int .i64 a.f0, .int .i64 a.f1, .string a.f2, .slice A3 a.f3.length c3, .slice A4 a.f4.length c4] 26)) (.cells #[.int .i64 b.f0, .int .i64 b.f1, .string b.f2, .slice B3 b.f3.length d3, .slice B4 b.f4.length d4] 26)) (.cells #[.int .i64 7, .int .i64 0, .string ⟨#[]⟩, .slice none 0 0, .slice (some ⟨w.heap.size + 1 + 1 + 1, 0, none⟩) 2 2] 26)) (.cells #[.int .i64 a.f0, .int .i64 a.f1, .string a.f2, .slice A3 a.f3.length c3, .slice A4 a.f4.length c4, .int .i64 b.f0, .int .i64 b.f1, .string b.f2, .slice B3 b.f3.length d3, .slice B4 b.f4.length d4] 26)
  refine bodyPost_ret (results_single rfl (.cell (w.heap.size + 1 + 1) 26 _ (0, 0) _ rfl hres Try.underlying26 rfl (by kernel_rfl) .nil)) rfl ?_
  exact ⟨⟨_, rfl, none, 0, _, 2, rfl, Nat.le_refl _, Kd.C_nil _ _, Nat.le_refl _, HR.out _ hB _ harr⟩, hB⟩
end Go.Proofs.Ytkeeknlfommieaa.PF
namespace Go.Proofs.Ytkeeknlfommieaa.PF
open Go.RowKit Go.Shelf Go.Proofs.YtkeeknlfommieaaW.PrintWords Go.Proofs.YtkeeknlfommieaaW.PrintLast Go.Proofs.YtkeeknlfommieaaW.PrintMore

/-- What is appended: m elements, their cells. -/
def News (W : World) (size : Nat) (vx : Value) (m : Nat) (news : List Value) : Prop :=
  (vx = .slice none 0 0 ∧ m = 0 ∧ news = []) ∨ ∃ ad c, vx = .slice (some ad) m c ∧ news.length = m * size ∧ (∀ u ∈ news, u.oneCell' = true) ∧ ∀ j u, news[j]? = some u → W.cell? (ad.add j) = some u
theorem run_append_nilx {P : Program} (w : World) {base : Nat} {t ty e : TypeId} {i : TypeInfo} {size : Nat} (ht : P.underlying t = some (.slice e)) (hi : P.info? e = some i) {v : Value} {n : Nat} {xs : List Value} (hown : w.ownsRow base e size v n xs) :
    (Builtin.append_ #[t, t] ty #[v, .slice none 0 0]).run P w = .ok v w := by
  rcases hown.2 with ⟨rfl, rfl⟩ | ⟨g, cap, cur, rfl, _, _, hnc, _⟩
  · simp [Builtin.append_, run_underlying ht, sizeOf, typeInfo, hi, Builtin.lenOf, Builtin.firstCells]
  · simp [Builtin.append_, run_underlying ht, sizeOf, typeInfo, hi, Builtin.lenOf, Builtin.firstCells, storeCells, hnc]
/-- What is known behind an append onto v: its row, what was there but for v's own block, where the new one lies. -/
structure Apd (base : Nat) (e : TypeId) (size : Nat) (w0 W : World) (v v1 : Value) (n : Nat) (xs : List Value) (w1 : World) : Prop where
  own : w1.ownsRow base e size v1 n xs
  low : Below base w0 w1
  grow : W.grownBy w1 v.ownBlock
  at' : v1.ownBlock = v.ownBlock ∨ v1.ownBlock = some W.heap.size
section
variable {P : Program} {ops : Array Oper} {o : Oper} {a : Act} {Q : Exit → Act → World → Prop} {K : Act → World → Prop}
theorem step_app {w0 W : World} (base : Nat) (hw : Region.wanted o (yielded ops a.tmps) = true) (s x : Operand) (t e : TypeId) (z : Value) (size bytes : Nat)
    (ho : o.op = .call { callee := .builtin .append, args := #[s, x], argTypes := #[t, t] })
    (ht : P.underlying t = some (.slice e)) (hinfo : (P.info? e).map (fun i => (i.zero, i.size, i.bytes)) = some (some z, size, bytes)) (hz : z.cells.size = size) (hs0 : 0 < size) (hb0 : 0 < bytes)
    (v vx : Value) (n m : Nat) (xs news : List Value) (hs : a.eval s = v) (hx : a.eval x = vx) (HO : W.ownsRow base e size v n xs) (HN : News W size vx m news) (HB : Below base w0 W) (hb0' : base = w0.heap.size) (hl : (n + m) * bytes ≤ 140737488355328)
    (h : ∀ v1 w1, Apd base e size w0 W v v1 (n + m) (xs ++ news) w1 → K (a.put o.dst v1) w1) :
    if Region.wanted o (yielded ops a.tmps) = true then Oper.wp P o a W K Q else K (a.put o.dst undef) W := by
  obtain ⟨i0, hi, hzz⟩ := Option.map_eq_some_iff.1 hinfo
  simp only [Prod.mk.injEq] at hzz
  obtain ⟨hz0, hz1, hz2⟩ := hzz
  have hbase : base ≤ W.heap.size := by rw [hb0']; exact HB.size
  have hlen : n + m ≤ 140737488355328 := Nat.le_trans (Nat.le_mul_of_pos_right _ hb0) hl
  rw [if_pos hw]
  rcases HN with ⟨rfl, rfl, rfl⟩ | ⟨ad, c, rfl, hnl, h1, hnews⟩
  · have hr := run_append_nilx (P := P) W (ty := o.type) ht hi HO
    unfold Oper.wp execOp
    simp only [ho, resolve, invoke, builtin, Sem.run_bind, Sem.run_pure, Result.andThen_ok, List.map_toArray, List.map_cons, List.map_nil, hs, hx, hr]
    exact h v W ⟨by simpa using HO, HB, ⟨rfl, rfl, rfl, Nat.le_refl _, fun _ _ _ => rfl⟩, .inl rfl⟩
  · obtain ⟨v1, w1, hr, hown, hg, _, hat⟩ := run_append_own_at (P := P) W base t o.type e i0 z size bytes ht hi hz0 hz1 hz2 hz hs0 v n xs HO ad m c news hnl hnews h1 (by simp only [maxLen]; omega) hl hbase
    unfold Oper.wp execOp
    simp only [ho, resolve, invoke, builtin, Sem.run_bind, Sem.run_pure, Result.andThen_ok, List.map_toArray, List.map_cons, List.map_nil, hs, hx, hr]
    exact h v1 w1 ⟨hown, HB.grown hg hbase (own_base HO), hg, hat⟩
end
theorem add_blk (a : Addr) (n : Nat) : (a.add n).block = a.block := by unfold Addr.add; first | rfl | (split <;> rfl)
theorem News.far {W W' : World} {size m : Nat} {vx : Value} {news : List Value} (h : News W size vx m news) (hc : ∀ a u, W.cell? a = some u → vx.ownBlock = some a.block → W'.cell? a = some u) : News W' size vx m news := by
  rcases h with h | ⟨ad, c, rfl, hl, h1, h2⟩
  · exact .inl h
  · refine .inr ⟨ad, c, rfl, hl, h1, fun j u hj => hc _ u (h2 j u hj) ?_⟩
    simp [Value.ownBlock, add_blk]
theorem news_one (w : World) {ys : List Value} {t : TypeId} {size : Nat} (hys : ys.length = size) (h1 : ∀ u ∈ ys, u.oneCell' = true) : News (w.alloc (.cells ys.toArray t)) size (.slice (some ⟨w.heap.size, 0, none⟩) 1 1) 1 ys :=
  .inr ⟨_, _, rfl, by omega, h1, by simpa using World.news_of_block (cs := ys.toArray) (t := t) (fr := (0, 0)) (heap_alloc_new w (.cells ys.toArray t))⟩
theorem news_blk {w : World} {g : Nat} {ys : List Value} {t : TypeId} {size : Nat} (h : w.heap[g]? = some (.cells ys.toArray t (0, 0))) (hys : ys.length = size) (h1 : ∀ u ∈ ys, u.oneCell' = true) : News w size (.slice (some ⟨g, 0, none⟩) 1 1) 1 ys :=
  .inr ⟨_, _, rfl, by omega, h1, by simpa using World.news_of_block (cs := ys.toArray) (t := t) (fr := (0, 0)) h⟩
theorem news_none {W : World} {size c : Nat} {ad : Addr} : News W size (.slice (some ad) 0 c) 0 [] := .inr ⟨ad, c, rfl, by simp, by simp, by simp⟩
theorem news_nil {W : World} {size : Nat} : News W size (.slice none 0 0) 0 [] := .inl ⟨rfl, rfl, rfl⟩
theorem news_take {w : World} {base : Nat} {e : TypeId} {size n g cap : Nat} {xs : List Value} (h : w.ownsRow base e size (.slice (some ⟨g, 0, none⟩) n cap) n xs) (h1 : ∀ u ∈ xs, u.oneCell' = true) (q c : Nat) (hq : q ≤ n) : News w size (.slice (some ⟨g, 0, none⟩) q c) q (xs.take (q * size)) := by
  refine .inr ⟨_, _, rfl, ?_, fun u hu => h1 u (List.mem_of_mem_take hu), fun j u hj => ?_⟩
  · rw [List.length_take, h.1]; exact Nat.min_eq_left (Nat.mul_le_mul_right _ hq)
  · rw [List.getElem?_take] at hj
    split at hj
    · exact h.cells (g := g) rfl j u hj
    · cases hj
theorem news_drop {w : World} {base : Nat} {e : TypeId} {size n g cap : Nat} {xs : List Value} (h : w.ownsRow base e size (.slice (some ⟨g, 0, none⟩) n cap) n xs) (h1 : ∀ u ∈ xs, u.oneCell' = true) (q c : Nat) (ad : Addr) (had : q < n → ad = (⟨g, 0, none⟩ : Addr).add (q * size)) (hq : q ≤ n) : News w size (.slice (some ad) (n - q) c) (n - q) (xs.drop (q * size)) := by
  refine .inr ⟨_, _, rfl, ?_, fun u hu => h1 u (List.mem_of_mem_drop hu), fun j u hj => ?_⟩
  · rw [List.length_drop, h.1, Nat.sub_mul]
  · rw [List.getElem?_drop] at hj
    have hlt : q < n := by
      have := (List.getElem?_eq_some_iff.1 hj).1
      rw [h.1] at this
      rcases Nat.lt_or_ge q n with h2 | h2
      · exact h2
      · obtain rfl : q = n := by omega
        omega
    rw [had hlt, Addr.add_add]
    exact h.cells (g := g) rfl _ u hj
theorem news_take' {wo W : World} (hb : Below wo.heap.size wo W) {base : Nat} {e : TypeId} {size n g cap : Nat} {xs : List Value} (h : wo.ownsRow base e size (.slice (some ⟨g, 0, none⟩) n cap) n xs) (h1 : ∀ u ∈ xs, u.oneCell' = true) (q c : Nat) (hq : q ≤ n) : News W size (.slice (some ⟨g, 0, none⟩) q c) q (xs.take (q * size)) :=
  (news_take h h1 q c hq).far fun _ _ hc _ => (hb.cell (World.block_lt_of_cell? _ _ hc)).trans hc
theorem news_drop' {wo W : World} (hb : Below wo.heap.size wo W) {base : Nat} {e : TypeId} {size n g cap : Nat} {xs : List Value} (h : wo.ownsRow base e size (.slice (some ⟨g, 0, none⟩) n cap) n xs) (h1 : ∀ u ∈ xs, u.oneCell' = true) (q c : Nat) (ad : Addr) (had : q < n → ad = (⟨g, 0, none⟩ : Addr).add (q * size)) (hq : q ≤ n) : News W size (.slice (some ad) (n - q) c) (n - q) (xs.drop (q * size)) :=
  (news_drop h h1 q c ad had hq).far fun _ _ hc _ => (hb.cell (World.block_lt_of_cell? _ _ hc)).trans hc
theorem news_dropI {wo W : World} (hb : Below wo.heap.size wo W) {base : Nat} {e : TypeId} {size n g cap : Nat} {xs : List Value} (h : wo.ownsRow base e size (.slice (some ⟨g, 0, none⟩) n cap) n xs) (h1 : ∀ u ∈ xs, u.oneCell' = true) (q c m : Nat) (hm : m = q * size) (hq : q ≤ n) (hc : n ≤ cap) :
    News W size (.slice (if cap = q then some ⟨g, 0, none⟩ else some ⟨g, m, none⟩) (n - q) c) (n - q) (xs.drop (q * size)) := by
  split
  · exact news_drop' hb h h1 q c _ (fun hlt => by omega) hq
  · exact news_drop' hb h h1 q c _ (fun hlt => by rw [hm, add_plain]) hq
theorem grownBy_any {w w1 : World} (h : Below w.heap.size w w1) (row : Option Nat) : w.grownBy w1 row := ⟨h.os, h.tape, h.output, h.size, fun k hk _ => h.block k hk⟩
theorem grownBy_store {w w1 : World} (h : Below w.heap.size w w1) (T i : Nat) (u : Value) : w.grownBy (w1.setCell ⟨T, i, none⟩ u) (some T) :=
  World.grownBy.trans (grownBy_any h _) ⟨rfl, rfl, rfl, by simp, fun k _ hne => Below.heap_setCell w1 ⟨T, i, none⟩ u k (fun e => hne (by rw [e]))⟩
theorem own_store {w : World} {H base T i : Nat} {e : TypeId} {size n : Nat} {v u : Value} {xs : List Value} (h : w.ownsRow H e size v n xs) (hT : T < H) (hb : base ≤ H) : (w.setCell ⟨T, i, none⟩ u).ownsRow base e size v n xs :=
  own_weaken (own_setCell h (p := ⟨T, i, none⟩) (fun e => by
    have := (h.lt T e.symm).1
    omega) u) hb
theorem size_drewR (w : World) : w.drew.heap.size = w.heap.size := rfl
theorem blk_newR (w : World) (o : Obj) {g : Nat} (h : g = w.heap.size) : (w.alloc o).heap[g]? = some o := by rw [h]; exact blk_new w o
theorem one_str (s : ByteArray) : ∀ u ∈ [Value.string s], u.oneCell' = true := by intro u hu; simp only [List.mem_singleton] at hu; rw [hu]; rfl
theorem one_strs (l : List ByteArray) : ∀ u ∈ l.map Value.string, u.oneCell' = true := by
  intro u hu
  obtain ⟨s, _, rfl⟩ := List.mem_map.1 hu
  rfl
/-- An empty row in a new block. -/
theorem own_empty {w : World} {base g : Nat} {e : TypeId} {size : Nat} (h : w.heap[g]? = some (.cells #[] e (0, 0))) (hg : base ≤ g) : w.ownsRow base e size (.slice (some ⟨g, 0, none⟩) 0 0) 0 [] :=
  ⟨by simp, .inr ⟨g, 0, #[], rfl, hg, h, Nat.le_refl _, by simp [maxLen], by simp, by simp⟩⟩
end Go.Proofs.Ytkeeknlfommieaa.PF
namespace Go.Proofs
open Go.Shelf
def Try.lays127_ren : Go.Shelf.Ren := ⟨fun | 20 => 127 | n => n, fun | 0 => 0 | 3 => 3 | 4 => 4 | 22 => 87 | 24 => 89 | 25 => 91 | n => n, fun | n => n⟩
theorem Try.lays127 : SlLaysF0.n20 Try.prog Try.lays127_ren := {
  mixed := by kernel_rfl
  f20 := ⟨"slices.insertionSortCmpFunc[limbeck/ty.field]", by decide, Try.func127.trans (congrArg some (by kernel_rfl))⟩
  t0 := Try.underlying0
  a0 := Try.isAgg0
  z0 := Try.sizeOf0
  v0 := Try.zeroValue0
  t3 := Try.underlying3
  a3 := Try.isAgg3
  z3 := Try.sizeOf3
  v3 := Try.zeroValue3
  t4 := Try.underlying4
  a4 := Try.isAgg4
  z4 := Try.sizeOf4
  v4 := Try.zeroValue4
  t22 := Try.underlying87
  a22 := Try.isAgg87
  z22 := Try.sizeOf87
  v22 := Try.zeroValue87
  t25 := Try.underlying91
  a25 := Try.isAgg91
  z25 := Try.sizeOf91
  v25 := Try.zeroValue91 }
end Go.Proofs
namespace Go.Proofs
open Go.Shelf
def Try.lays128_ren : Go.Shelf.Ren := ⟨fun | 128 => 125 | n => n, fun | 51 => 125 | 3 => 3 | 4 => 4 | 46 => 108 | 5 => 5 | 9 => 9 | n => n, fun | n => n⟩
theorem Try.lays128 : Go.Proofs.Lays.n128 Try.prog Try.lays128_ren := {
  mixed := by kernel_rfl
  f128 := Try.func125.trans (congrArg some (by kernel_rfl))
  t3 := Try.underlying3
  a3 := Try.isAgg3
  z3 := Try.sizeOf3
  v3 := Try.zeroValue3
  t4 := Try.underlying4
  a4 := Try.isAgg4
  z4 := Try.sizeOf4
  v4 := Try.zeroValue4
  t5 := Try.underlying5
  a5 := Try.isAgg5
  z5 := Try.sizeOf5
  v5 := Try.zeroValue5
  t9 := Try.underlying9
  a9 := Try.isAgg9
  z9 := Try.sizeOf9
  v9 := Try.zeroValue9
  t46 := Try.underlying108
  a46 := Try.isAgg108
  z46 := Try.sizeOf108
  v46 := Try.zeroValue108
  t51 := Try.underlying125
  a51 := Try.isAgg125
  z51 := Try.sizeOf125
  v51 := Try.zeroValue125 }
/-- bits.Len32: "Len32 returns the minimum number of bits required to represent x; the result is 0 for x == 0.": IT RETURNS 'Lib.bitLen x'; the world is as it was. ('h0', 'h1': x is a uint32.) (LAID: no walk: one application.) -/
theorem Try.bits_Len32 (x : Int) (w : World) (h0 : 0 ≤ x) (h1 : x ≤ 4294967295) :
    Calls Try.prog 125 #[.int .u32 x] w fun e w' => e = .returned (.int .i64 (Lib.bitLen x.toNat)) ∧ w' = w := Any.bits_Len32 Try.lays128 x w h0 h1
def Try.lays125_ren : Go.Shelf.Ren := ⟨fun | 125 => 103 | 128 => 125 | 129 => 126 | n => n, fun | 46 => 108 | 3 => 3 | 51 => 125 | 53 => 127 | 4 => 4 | 5 => 5 | 9 => 9 | n => n, fun | n => n⟩
theorem Try.lays125 : Go.Proofs.Lays.n125 Try.prog Try.lays125_ren := {
  mixed := by kernel_rfl
  f125 := Try.func103.trans (congrArg some (by kernel_rfl))
  f128 := Try.func125.trans (congrArg some (by kernel_rfl))
  f129 := Try.func126.trans (congrArg some (by kernel_rfl))
  t3 := Try.underlying3
  a3 := Try.isAgg3
  z3 := Try.sizeOf3
  v3 := Try.zeroValue3
  t4 := Try.underlying4
  a4 := Try.isAgg4
  z4 := Try.sizeOf4
  v4 := Try.zeroValue4
  t5 := Try.underlying5
  a5 := Try.isAgg5
  z5 := Try.sizeOf5
  v5 := Try.zeroValue5
  t9 := Try.underlying9
  a9 := Try.isAgg9
  z9 := Try.sizeOf9
  v9 := Try.zeroValue9
  t46 := Try.underlying108
  a46 := Try.isAgg108
  z46 := Try.sizeOf108
  v46 := Try.zeroValue108
  t51 := Try.underlying125
  a51 := Try.isAgg125
  z51 := Try.sizeOf125
  v51 := Try.zeroValue125
  t53 := Try.underlying127
  a53 := Try.isAgg127
  z53 := Try.sizeOf127
  v53 := Try.zeroValue127 }
/-- bits.Len: "Len returns the minimum number of bits required to represent x; the result is 0 for x == 0.": IT RETURNS 'Lib.bitLen x'; the world is as it was. (A uint has 64 bits in the model.) ITS CALLEE bits.Len64 IS MET BY ITS OWN CONTRACT OFF THE SHELF (lay that first). (LAID: no walk: one application.) -/
theorem Try.bits_Len (x : Int) (w : World) (h0 : 0 ≤ x) (h1 : x ≤ 18446744073709551615) :
    Calls Try.prog 103 #[.int .u64 x] w fun e w' => e = .returned (.int .i64 (Lib.bitLen x.toNat)) ∧ w' = w := Any.bits_Len Try.lays125 x w h0 h1
def Try.lays213_ren : Go.Shelf.Ren := ⟨fun | 213 => 129 | 265 => 141 | n => n, fun | 9 => 9 | 3 => 3 | n => n, fun | n => n⟩
theorem Try.lays213 : Go.Proofs.Lays.n213 Try.prog Try.lays213_ren := {
  mixed := by kernel_rfl
  f213 := Try.func129.trans (congrArg some (by kernel_rfl))
  f265 := Try.func141.trans (congrArg some (by kernel_rfl))
  t3 := Try.underlying3
  a3 := Try.isAgg3
  z3 := Try.sizeOf3
  v3 := Try.zeroValue3
  t9 := Try.underlying9
  a9 := Try.isAgg9
  z9 := Try.sizeOf9
  v9 := Try.zeroValue9 }
open Go.RowKit in
/-- internal/bytealg.CompareString (what strings.Compare calls): IT RETURNS 'Lib.compareBytes a b'; the world is as it was. (LAID: no walk: one application.) -/
theorem Try.bytealg_CompareString (a b : ByteArray) (w : World) :
    Calls Try.prog 129 #[.string a, .string b] w fun e w' => e = .returned (.int .i64 (Lib.compareBytes a.data.toList b.data.toList)) ∧ w' = w := Any.bytealg_CompareString Try.lays213 a b w
def Try.lays106_ren : Go.Shelf.Ren := ⟨fun | 106 => 105 | 213 => 129 | 265 => 141 | n => n, fun | 9 => 9 | 3 => 3 | n => n, fun | n => n⟩
theorem Try.lays106 : Go.Proofs.Lays.n106 Try.prog Try.lays106_ren := {
  mixed := by kernel_rfl
  f106 := Try.func105.trans (congrArg some (by kernel_rfl))
  f213 := Try.func129.trans (congrArg some (by kernel_rfl))
  f265 := Try.func141.trans (congrArg some (by kernel_rfl))
  t3 := Try.underlying3
  a3 := Try.isAgg3
  z3 := Try.sizeOf3
  v3 := Try.zeroValue3
  t9 := Try.underlying9
  a9 := Try.isAgg9
  z9 := Try.sizeOf9
  v9 := Try.zeroValue9 }
open Go.RowKit in
/-- strings.Compare: "Compare returns an integer comparing two strings lexicographically. The result will be 0 if a == b, -1 if a < b, and +1 if a > b.": IT RETURNS 'Lib.compareBytes a b'; the world is as it was. (LAID: no walk: one application.) -/
theorem Try.strings_Compare (a b : ByteArray) (w : World) :
    Calls Try.prog 105 #[.string a, .string b] w fun e w' => e = .returned (.int .i64 (Lib.compareBytes a.data.toList b.data.toList)) ∧ w' = w := Any.strings_Compare Try.lays106 a b w
def Try.lays129_ren : Go.Shelf.Ren := ⟨fun | 129 => 126 | n => n, fun | 53 => 127 | 3 => 3 | 4 => 4 | 46 => 108 | 5 => 5 | 9 => 9 | n => n, fun | n => n⟩
theorem Try.lays129 : Go.Proofs.Lays.n129 Try.prog Try.lays129_ren := {
  mixed := by kernel_rfl
  f129 := Try.func126.trans (congrArg some (by kernel_rfl))
  t3 := Try.underlying3
  a3 := Try.isAgg3
  z3 := Try.sizeOf3
  v3 := Try.zeroValue3
  t4 := Try.underlying4
  a4 := Try.isAgg4
  z4 := Try.sizeOf4
  v4 := Try.zeroValue4
  t5 := Try.underlying5
  a5 := Try.isAgg5
  z5 := Try.sizeOf5
  v5 := Try.zeroValue5
  t9 := Try.underlying9
  a9 := Try.isAgg9
  z9 := Try.sizeOf9
  v9 := Try.zeroValue9
  t46 := Try.underlying108
  a46 := Try.isAgg108
  z46 := Try.sizeOf108
  v46 := Try.zeroValue108
  t53 := Try.underlying127
  a53 := Try.isAgg127
  z53 := Try.sizeOf127
  v53 := Try.zeroValue127 }
/-- bits.Len64: "Len64 returns the minimum number of bits required to represent x; the result is 0 for x == 0.": IT RETURNS 'Lib.bitLen x'; the world is as it was. ('h0', 'h1': x is a uint64.) (LAID: no walk: one application.) -/
theorem Try.bits_Len64 (x : Int) (w : World) (h0 : 0 ≤ x) (h1 : x ≤ 18446744073709551615) :
    Calls Try.prog 126 #[.int .u64 x] w fun e w' => e = .returned (.int .i64 (Lib.bitLen x.toNat)) ∧ w' = w := Any.bits_Len64 Try.lays129 x w h0 h1
def Try.lays190_ren : Go.Shelf.Ren := ⟨fun | 190 => 69 | 125 => 103 | 258 => 102 | 128 => 125 | 129 => 126 | 302 => 116 | 303 => 117 | 304 => 118 | 305 => 119 | 306 => 120 | 307 => 121 | 308 => 122 | 309 => 123 | 310 => 124 | 333 => 134 | 329 => 135 | 330 => 136 | 334 => 137 | 335 => 138 | 336 => 139 | 344 => 143 | n => n, fun | 31 => 23 | 9 => 9 | 3 => 3 | 46 => 108 | 0 => 0 | 51 => 125 | 53 => 127 | 4 => 4 | 183 => 117 | 182 => 116 | 131 => 122 | 5 => 5 | 218 => 131 | 222 => 135 | 228 => 137 | 229 => 138 | n => n, fun | n => n⟩
theorem Try.lays190 : Go.Proofs.Lays.n190 Try.prog Try.lays190_ren := {
  mixed := by kernel_rfl
  f125 := Try.func103.trans (congrArg some (by kernel_rfl))
  f128 := Try.func125.trans (congrArg some (by kernel_rfl))
  f129 := Try.func126.trans (congrArg some (by kernel_rfl))
  f190 := Try.func69.trans (congrArg some (by kernel_rfl))
  f258 := Try.func102.trans (congrArg some (by kernel_rfl))
  f302 := Try.func116.trans (congrArg some (by kernel_rfl))
  f303 := Try.func117.trans (congrArg some (by kernel_rfl))
  f304 := Try.func118.trans (congrArg some (by kernel_rfl))
  f305 := Try.func119.trans (congrArg some (by kernel_rfl))
  f306 := Try.func120.trans (congrArg some (by kernel_rfl))
  f307 := Try.func121.trans (congrArg some (by kernel_rfl))
  f308 := Try.func122.trans (congrArg some (by kernel_rfl))
  f309 := Try.func123.trans (congrArg some (by kernel_rfl))
  f310 := Try.func124.trans (congrArg some (by kernel_rfl))
  f329 := Try.func135.trans (congrArg some (by kernel_rfl))
  f330 := Try.func136.trans (congrArg some (by kernel_rfl))
  f333 := Try.func134.trans (congrArg some (by kernel_rfl))
  f334 := Try.func137.trans (congrArg some (by kernel_rfl))
  f335 := Try.func138.trans (congrArg some (by kernel_rfl))
  f336 := Try.func139.trans (congrArg some (by kernel_rfl))
  f344 := Try.func143.trans (congrArg some (by kernel_rfl))
  t0 := Try.underlying0
  a0 := Try.isAgg0
  z0 := Try.sizeOf0
  v0 := Try.zeroValue0
  t3 := Try.underlying3
  a3 := Try.isAgg3
  z3 := Try.sizeOf3
  v3 := Try.zeroValue3
  t4 := Try.underlying4
  a4 := Try.isAgg4
  z4 := Try.sizeOf4
  v4 := Try.zeroValue4
  t5 := Try.underlying5
  a5 := Try.isAgg5
  z5 := Try.sizeOf5
  v5 := Try.zeroValue5
  t9 := Try.underlying9
  a9 := Try.isAgg9
  z9 := Try.sizeOf9
  v9 := Try.zeroValue9
  t31 := Try.underlying23
  a31 := Try.isAgg23
  z31 := Try.sizeOf23
  v31 := Try.zeroValue23
  t46 := Try.underlying108
  a46 := Try.isAgg108
  z46 := Try.sizeOf108
  v46 := Try.zeroValue108
  t51 := Try.underlying125
  a51 := Try.isAgg125
  z51 := Try.sizeOf125
  v51 := Try.zeroValue125
  t53 := Try.underlying127
  a53 := Try.isAgg127
  z53 := Try.sizeOf127
  v53 := Try.zeroValue127
  t131 := Try.underlying122
  a131 := Try.isAgg122
  z131 := Try.sizeOf122
  v131 := Try.zeroValue122
  t182 := Try.underlying116
  a182 := Try.isAgg116
  z182 := Try.sizeOf116
  v182 := Try.zeroValue116
  t183 := Try.underlying117
  a183 := Try.isAgg117
  z183 := Try.sizeOf117
  v183 := Try.zeroValue117
  t218 := Try.underlying131
  a218 := Try.isAgg131
  z218 := Try.sizeOf131
  v218 := Try.zeroValue131
  t222 := Try.underlying135
  a222 := Try.isAgg135
  z222 := Try.sizeOf135
  v222 := Try.zeroValue135
  t228 := Try.underlying137
  a228 := Try.isAgg137
  z228 := Try.sizeOf137
  v228 := Try.zeroValue137
  t229 := Try.underlying138
  a229 := Try.isAgg138
  z229 := Try.sizeOf138
  v229 := Try.zeroValue138 }
open Go.Sort Go.RowKit in
theorem Try.slices_Sort_string (blk off cap : Nat) (ss : List (List UInt8)) (w : World) (hH : Holds encStr w blk off ss.toArray) (hblk : blk < w.heap.size) (hsz : ss.length < 4611686018427387904) :
    Calls Try.prog 69 #[.slice (some ⟨blk, off, none⟩) ss.length cap] w fun e w' =>
      e = .returned (.tuple #[]) ∧ ∃ n os, w' = grow (putRow encStr (Sort.ahead w n) blk off (ss.mergeSort fun x y => decide (x ≤ y)).toArray) os := Any.slices_Sort_string Try.lays190 blk off cap ss w hH hblk hsz
def Try.lays109_ren : Go.Shelf.Ren := ⟨fun | 109 => 77 | n => n, fun | 31 => 23 | 9 => 9 | 3 => 3 | 0 => 0 | 4 => 4 | n => n, fun | n => n⟩
theorem Try.lays109 : Go.Proofs.Lays.n109 Try.prog Try.lays109_ren := {
  mixed := by kernel_rfl
  f109 := Try.func77.trans (congrArg some (by kernel_rfl))
  t0 := Try.underlying0
  a0 := Try.isAgg0
  z0 := Try.sizeOf0
  v0 := Try.zeroValue0
  t3 := Try.underlying3
  a3 := Try.isAgg3
  z3 := Try.sizeOf3
  v3 := Try.zeroValue3
  t4 := Try.underlying4
  a4 := Try.isAgg4
  z4 := Try.sizeOf4
  v4 := Try.zeroValue4
  t9 := Try.underlying9
  a9 := Try.isAgg9
  z9 := Try.sizeOf9
  v9 := Try.zeroValue9
  t31 := Try.underlying23
  a31 := Try.isAgg23
  z31 := Try.sizeOf23
  v31 := Try.zeroValue23 }
open Go.Lib in
/-- slices.Index at []string: "Index returns the index of the first occurrence of v in s, or -1 if not present.": IT RETURNS 'Lib.idxOfS (the elements) v'; the world is as it was. 'zs': what the cells behind the slice's address hold (its spare capacity too, if you have it); 'zs.take n': its elements. (LAID: no walk: one application.) -/
theorem Try.slices_Index_string (b off n c : Nat) (zs : List ByteArray) (x : ByteArray) (w : World) (hz : n ≤ zs.length) (hbig : n ≤ 9223372036854775807) (hc : ∀ j, j < zs.length → w.cell? ⟨b, off + j, none⟩ = some (.string (zs.getD j ByteArray.empty))) :
    Calls Try.prog 77 #[.slice (some ⟨b, off, none⟩) n c, .string x] w fun e w' => e = .returned (.int .i64 (Lib.idxOfS (zs.take n) x)) ∧ w' = w := Any.slices_Index_string Try.lays109 b off n c zs x w hz hbig hc
open Go.Lib in
/-- The same at a slice of length 0, a nil one too: no cell is known, none is asked for. (LAID: no walk: one application.) -/
theorem Try.slices_Index_string_empty (a : Option Addr) (c : Nat) (x : ByteArray) (w : World) :
    Calls Try.prog 77 #[.slice a 0 c, .string x] w fun e w' => e = .returned (.int .i64 (Lib.idxOfS [] x)) ∧ w' = w := Any.slices_Index_string_empty Try.lays109 a c x w
def Try.lays193_ren : Go.Shelf.Ren := ⟨fun | 193 => 72 | n => n, fun | 31 => 23 | 9 => 9 | 4 => 4 | 3 => 3 | 0 => 0 | n => n, fun | n => n⟩
theorem Try.lays193 : Go.Proofs.Lays.n193 Try.prog Try.lays193_ren := {
  mixed := by kernel_rfl
  f193 := Try.func72.trans (congrArg some (by kernel_rfl))
  t0 := Try.underlying0
  a0 := Try.isAgg0
  z0 := Try.sizeOf0
  v0 := Try.zeroValue0
  t3 := Try.underlying3
  a3 := Try.isAgg3
  z3 := Try.sizeOf3
  v3 := Try.zeroValue3
  t4 := Try.underlying4
  a4 := Try.isAgg4
  z4 := Try.sizeOf4
  v4 := Try.zeroValue4
  t9 := Try.underlying9
  a9 := Try.isAgg9
  z9 := Try.sizeOf9
  v9 := Try.zeroValue9
  t31 := Try.underlying23
  a31 := Try.isAgg23
  z31 := Try.sizeOf23
  v31 := Try.zeroValue23 }
open Go.RowKit Go.Lib in
/-- slices.Equal at []string: "Equal reports whether two slices are equal: the same length and all elements equal. If the lengths are different, Equal returns false. Otherwise, the elements are compared in increasing index order, and the comparison stops at the first unequal pair. Empty and nil slices are considered equal.": IT RETURNS WHETHER THE TWO LISTS OF ELEMENTS ARE ONE; the world is as it was but for the count of draws (the test 's1[i] != s2[i]' has two reads, whose order the model draws, once a round). 'xs', 'ys': what the cells behind the two addresses hold (the spare capacity too, if you have it); 'xs.take n', 'ys.take m': the elements. THE TWO SLICES MAY OVERLAP. (LAID: no walk: one application.) -/
theorem Try.slices_Equal_string (b1 o1 n c b2 o2 m d : Nat) (xs ys : List ByteArray) (w : World) (hx : n ≤ xs.length) (hy : m ≤ ys.length) (hbig : n ≤ 9223372036854775807) (hbig2 : m ≤ 9223372036854775807) (hc1 : ∀ j, j < xs.length → w.cell? ⟨b1, o1 + j, none⟩ = some (.string (xs.getD j ByteArray.empty))) (hc2 : ∀ j, j < ys.length → w.cell? ⟨b2, o2 + j, none⟩ = some (.string (ys.getD j ByteArray.empty))) :
    Calls Try.prog 72 #[.slice (some ⟨b1, o1, none⟩) n c, .slice (some ⟨b2, o2, none⟩) m d] w fun e w' => e = .returned (.bool (decide (xs.take n = ys.take m))) ∧ ∃ q, w' = w.drewN q := Any.slices_Equal_string Try.lays193 b1 o1 n c b2 o2 m d xs ys w hx hy hbig hbig2 hc1 hc2
open Go.RowKit Go.Lib in
/-- The same where the first is of length 0 (a nil one too): no cell is asked for. (LAID: no walk: one application.) -/
theorem Try.slices_Equal_string_empty (a1 a2 : Option Addr) (c m d : Nat) (w : World) (hbig2 : m ≤ 9223372036854775807) :
    Calls Try.prog 72 #[.slice a1 0 c, .slice a2 m d] w fun e w' => e = .returned (.bool (decide (m = 0))) ∧ w' = w := Any.slices_Equal_string_empty Try.lays193 a1 a2 c m d w hbig2
def Try.lays194_ren : Go.Shelf.Ren := ⟨fun | 194 => 70 | n => n, fun | 31 => 23 | 9 => 9 | 3 => 3 | 4 => 4 | 0 => 0 | n => n, fun | n => n⟩
theorem Try.lays194 : Go.Proofs.Lays.n194 Try.prog Try.lays194_ren := {
  mixed := by kernel_rfl
  f194 := Try.func70.trans (congrArg some (by kernel_rfl))
  t0 := Try.underlying0
  a0 := Try.isAgg0
  z0 := Try.sizeOf0
  v0 := Try.zeroValue0
  t3 := Try.underlying3
  a3 := Try.isAgg3
  z3 := Try.sizeOf3
  v3 := Try.zeroValue3
  t4 := Try.underlying4
  a4 := Try.isAgg4
  z4 := Try.sizeOf4
  v4 := Try.zeroValue4
  t9 := Try.underlying9
  a9 := Try.isAgg9
  z9 := Try.sizeOf9
  v9 := Try.zeroValue9
  t31 := Try.underlying23
  a31 := Try.isAgg23
  z31 := Try.sizeOf23
  v31 := Try.zeroValue23 }
open Go.RowKit Go.Lib Go.Sort in
/-- slices.Compact at []string, over an array: the library's two loops are walked. (LAID: no walk: one application.) -/
theorem Try.slices_Compact_string_arr (blk off cap : Nat) (d : Array (List UInt8)) (w : World) (hH : Holds encStr w blk off d) (hsz : d.size ≤ 9223372036854775807) (hcap : d.size ≤ cap) :
    Calls Try.prog 70 #[.slice (some ⟨blk, off, none⟩) d.size cap] w fun e w' => e = .returned (.slice (some ⟨blk, off, none⟩) (compactUpTo d d.size).length cap) ∧ ∃ q, w' = putRow encStr (Sort.ahead w q) blk off (compactUpTo d d.size ++ List.replicate (d.size - (compactUpTo d d.size).length) []).toArray := Any.slices_Compact_string_arr Try.lays194 blk off cap d w hH hsz hcap
open Go.RowKit Go.Lib Go.Sort in
/-- slices.Compact at []string: "Compact replaces consecutive runs of equal elements with a single copy. This is like the uniq command found on Unix. Compact modifies the contents of the slice s and returns the modified slice, which may have a smaller length. Compact zeroes the elements between the new length and the original length. The result preserves the nilness of s.": IT RETURNS THE SLICE CUT TO 'Lib.compact zs'; ITS CELLS HOLD 'Lib.compact zs', THEN ZERO VALUES up to the old length; all else is as it was, but for the count of draws. IN THE WORDS OF slices.Sort's CONTRACT ('Holds', 'putRow'): so the everyday 'slices.Sort(xs); xs = slices.Compact(xs)' goes from the one contract to the other. It asks 'zs.length ≤ cap' (every slice's: the reslicing 's[:k]' looks at it). Length 0, nil: '.._empty'. (LAID: no walk: one application.) -/
theorem Try.slices_Compact_string (blk off cap : Nat) (zs : List (List UInt8)) (w : World) (hH : Holds encStr w blk off zs.toArray) (hsz : zs.length ≤ 9223372036854775807) (hcap : zs.length ≤ cap) :
    Calls Try.prog 70 #[.slice (some ⟨blk, off, none⟩) zs.length cap] w fun e w' => e = .returned (.slice (some ⟨blk, off, none⟩) (Lib.compact zs).length cap) ∧ ∃ q, w' = putRow encStr (Sort.ahead w q) blk off (Lib.compact zs ++ List.replicate (zs.length - (Lib.compact zs).length) []).toArray := Any.slices_Compact_string Try.lays194 blk off cap zs w hH hsz hcap
open Go.RowKit Go.Lib Go.Sort in
/-- The same at a slice of length 0, a nil one too: it comes back as it is. (LAID: no walk: one application.) -/
theorem Try.slices_Compact_string_empty (a : Option Addr) (cap : Nat) (w : World) :
    Calls Try.prog 70 #[.slice a 0 cap] w fun e w' => e = .returned (.slice a 0 cap) ∧ w' = w := Any.slices_Compact_string_empty Try.lays194 a cap w
open Go.RowKit Go.Lib Go.Sort in
/-- slices.Compact at []string, of an argument. (LAID: no walk: one application.) -/
theorem Try.slices_Compact_string_cells (b off n c : Nat) (Sx : Nat → ByteArray) (w : World) (hbig : n ≤ 9223372036854775807) (hcap : n ≤ c) (hc : ∀ i, i < n → w.cell? ⟨b, off + i, none⟩ = some (.string (Sx i))) (hf : ∀ j, j < n → w.frozen? ⟨b, off + j, none⟩ = false) :
    Calls Try.prog 70 #[.slice (some ⟨b, off, none⟩) n c] w fun e w' => e = .returned (.slice (some ⟨b, off, none⟩) (Lib.compact (Lib.strsOf Sx n)).length c) ∧ ∃ q, w' = (w.drewN q).setCells b off ((Lib.compact (Lib.strsOf Sx n) ++ List.replicate (n - (Lib.compact (Lib.strsOf Sx n)).length) []).map encStr) := Any.slices_Compact_string_cells Try.lays194 b off n c Sx w hbig hcap hc hf
open Go.RowKit Go.Sort in
/-- .. and plain. (LAID: no walk: one application.) -/
theorem Try.slices_Sort_string_none (p : Option Addr) (cap : Nat) (w : World) :
    Calls Try.prog 69 #[.slice p 0 cap] w fun e w' => e = .returned (.tuple #[]) ∧ w' = w := Any.slices_Sort_string_none Try.lays190 p cap w
open Go.RowKit Go.Lib in
theorem Try.slices_Equal_string_lens (a1 a2 : Option Addr) (n c m d : Nat) (w : World) (hnm : n ≠ m) :
    Calls Try.prog 72 #[.slice a1 n c, .slice a2 m d] w fun e w' => e = .returned (.bool false) ∧ w' = w := Any.slices_Equal_string_lens Try.lays193 a1 a2 n c m d w hnm
end Go.Proofs
namespace Go.Proofs.Ytkeeknlfommieaa.PF
open Go.RowKit Go.Shelf Go.Proofs.YtkeeknlfommieaaW.PrintWords Go.Proofs.YtkeeknlfommieaaW.PrintLast Go.Proofs.YtkeeknlfommieaaW.PrintMore
attribute [local go_sem] Oper.semAt_some

theorem el26F {W : World} {ok : Nat → Prop} {A : Option Addr} {xs : List S26} (h : Kd.F k26 W ok A xs.length xs) (i : Nat) (hi : i < xs.length) :
    ∃ ad A3 c3 A4 c4, A = some ad ∧ W.cell? (ad.add (i * 5)) = some (.int .i64 xs[i].f0) ∧ W.cell? ⟨(ad.add (i * 5)).block, (ad.add (i * 5)).off + 1, none⟩ = some (.int .i64 xs[i].f1) ∧ W.cell? ⟨(ad.add (i * 5)).block, (ad.add (i * 5)).off + 2, none⟩ = some (.string xs[i].f2) ∧ W.cell? ⟨(ad.add (i * 5)).block, (ad.add (i * 5)).off + 3, none⟩ = some (.slice A3 xs[i].f3.length c3) ∧ W.cell? ⟨(ad.add (i * 5)).block, (ad.add (i * 5)).off + 4, none⟩ = some (.slice A4 xs[i].f4.length c4)
      ∧ xs[i].f3.length ≤ c3 ∧ Kd.F Kd.string W ok A3 xs[i].f3.length xs[i].f3 ∧ xs[i].f4.length ≤ c4 ∧ Kd.F k26 W ok A4 xs[i].f4.length xs[i].f4 := by
  obtain ⟨ad, cs, e, hcl, hK, hc, _⟩ := Kd.F_get h z26 (i : Int) (by omega) (by omega)
  rw [show xs.getD (i : Int).toNat z26 = xs[i] from rd_getElem xs i hi] at hK
  obtain ⟨A3, c3, A4, c4, rfl, l3, g3, l4, g4⟩ := k26_openF hK
  have hc' : ∀ j u, ([.int .i64 xs[i].f0, .int .i64 xs[i].f1, .string xs[i].f2, .slice A3 xs[i].f3.length c3, .slice A4 xs[i].f4.length c4] : List Value)[j]? = some u → W.cell? (ad.add (i * 5 + j)) = some u := fun j u hu => hc j u hu
  exact ⟨ad, A3, c3, A4, c4, e, hc' 0 _ rfl, by rw [← add_field _ _ 1 (by omega)]; exact hc' 1 _ rfl, by rw [← add_field _ _ 2 (by omega)]; exact hc' 2 _ rfl, by rw [← add_field _ _ 3 (by omega)]; exact hc' 3 _ rfl, by rw [← add_field _ _ 4 (by omega)]; exact hc' 4 _ rfl, l3, g3, l4, g4⟩

/-- A type as it is handed to a loop's body: what it reads as, and where its lists lie. -/
structure NV where
  x : S26
  A3 : Option Addr
  c3 : Nat
  A4 : Option Addr
  c4 : Nat
def NV.enc (v : NV) : Value := .agg #[.int .i64 v.x.f0, .int .i64 v.x.f1, .string v.x.f2, .slice v.A3 v.x.f3.length v.c3, .slice v.A4 v.x.f4.length v.c4]
mutual
def preT : S26 → List S26
  | ⟨k, n, nm, ls, ar⟩ => ⟨k, n, nm, ls, ar⟩ :: preL ar
def preL : List S26 → List S26
  | [] => []
  | x :: l => preT x ++ preL l
end
theorem preL_app (l m : List S26) : preL (l ++ m) = preL l ++ preL m := by
  induction l with
  | nil => rfl
  | cons x l ih => rw [List.cons_append, preL, preL, ih, List.append_assoc]
theorem preL_take (l : List S26) (k : Nat) (h : k < l.length) : preL (l.take (k + 1)) = preL (l.take k) ++ preT l[k] := by
  rw [List.take_succ_eq_append_getElem h, preL_app]
  simp [preL]

/-- What a round keeps: all that lay below n₀, and each box of a type. -/
structure KT (n₀ : Nat) (W W' : World) : Prop where
  low : Below n₀ W W'
  typ : ∀ (b : Nat) (c : Array Value), W.heap[b]? = some (Obj.cells c 26 (0, 0)) → W'.heap[b]? = some (Obj.cells c 26 (0, 0))
theorem KT.refl (n₀ : Nat) (W : World) : KT n₀ W W := ⟨Below.refl _ _, fun _ _ h => h⟩
theorem KT.trans {n₀ : Nat} {A B C : World} (h : KT n₀ A B) (k : KT n₀ B C) : KT n₀ A C := ⟨h.low.trans k.low, fun b c hb => k.typ b c (h.typ b c hb)⟩
theorem KT.alloc {n₀ : Nat} {A B : World} (h : KT n₀ A B) (hn : n₀ ≤ B.heap.size) (o : Obj) : KT n₀ A (B.alloc o) := ⟨h.low.alloc hn o, fun b c hb => blk_alloc (h.typ b c hb) o⟩
theorem kt_b {n₀ : Nat} {w : World} (hn : n₀ ≤ w.heap.size) (W : World) (l : Nat) (o o' : Obj) (hl : w.heap.size ≤ l) (h : W.heap[l]? = some o) (hc : o.isCells = false) (hw : o.isWalk = false) : KT n₀ W (W.putObj l o') :=
  ⟨belowK_b hn W l o o' hl h hc hw, fun b c hb => by
    have hne : l ≠ b := by rintro rfl; rw [h] at hb; cases hb; simp [Obj.isCells] at hc
    simp only [World.putObj]
    rw [Array.getElem?_setIfInBounds_ne hne]
    exact hb⟩

theorem wide_room (k : Nat) : Fence.wide.room k := fun d h => by cases h
/-- At the wide fence the figures are all one. -/
theorem yield_any {m : Nat} (m' : Nat) {P : Program} {l : Nat} {args : Array Value} {W : World} {R : Ending → World → Prop} (h : YieldAt Fence.wide m P l args W R) : YieldAt Fence.wide m' P l args W R := by
  obtain ⟨fn, tmps, assign, body, hy, hR⟩ := h
  exact ⟨fn, tmps, assign, body, hy, hR.1, fun c cs _ => hR.2 c cs (wide_room _)⟩

set_option maxRecDepth 100000 in
set_option maxHeartbeats 2000000 in
theorem walk_in (l n₀ N : Nat) (J Jx : List NV → World → Prop) (hJa : ∀ pre W o, J pre W → J pre (World.alloc W o))
    (hY : ∀ m pre x W, J pre W → pre.length < N → YieldAt Fence.wide m Try.prog l #[NV.enc x] W fun e W' =>
      (e = .returned (.bool true) ∧ J (pre ++ [x]) W' ∧ KT n₀ W W') ∨ (e = .returned (.bool false) ∧ Jx (pre ++ [x]) W')) (t : S26) :
    ∀ (n : Nat) (A3 : Option Addr) (c3 : Nat) (A4 : Option Addr) (c4 : Nat) (pre : List NV) (W : World), n₀ ≤ W.heap.size → Kd.F k26 W (fun k => k < n₀) A4 t.f4.length t.f4 → J pre W → pre.length + (preT t).length ≤ N →
      CallsIn Fence.wide n Try.prog 101 #[.agg #[.int .i64 t.f0, .int .i64 t.f1, .string t.f2, .slice A3 t.f3.length c3, .slice A4 t.f4.length c4], .func (.yield l) #[] #[]] W fun e W' =>
        (e = .returned (.bool true) ∧ (∃ ys : List NV, ys.map NV.x = preT t ∧ J (pre ++ ys) W') ∧ KT n₀ W W') ∨ (e = .returned (.bool false) ∧ ∃ q : List NV, q.map NV.x <+: preT t ∧ Jx (pre ++ q) W') := by
  induction t using S26.ind with
  | h k nn nm ls ar ih =>
  intro n A3 c3 A4 c4 pre W hn hF hJ hN
  dsimp only at hF ⊢
  have hNl : pre.length < N := by rw [preT] at hN; simp at hN; omega
  have hJ1 := hJa _ _ (Obj.cells #[.int .i64 k, .int .i64 nn, .string nm, .slice A3 ls.length c3, .slice A4 ar.length c4] 26) hJ
  obtain ⟨fn, tmps, assign, body, hy, hR⟩ := hY (n - 1) pre ⟨⟨k, nn, nm, ls, ar⟩, A3, c3, A4, c4⟩ _ hJ1 hNl
  dsimp only [NV.enc] at hy
  refine callsIn_of_wp Try.func101 rfl trivial ?_ rfl
  simp only [Try.ntmps101, List.size_toArray, List.length_cons, List.length_nil, Nat.reduceAdd, Nat.reduceSub, Array.replicate_succ, Array.replicate_zero, List.push_toArray, List.append_toArray, List.nil_append, List.cons_append]
  have HJA := Aside0.mk hJa
  have HY := Aside0.mk hY
  have HIH := Aside0.mk ih
  have HN := Aside0.mk hN
  clear hJa hY ih hJ hJ1 hN hNl
  gi_wp2
  refine ⟨fun h => (by cases h), ?_⟩
  refine hR.mono ?_
  clear hR
  rintro e W1 (⟨rfl, hJ2, hk⟩ | ⟨rfl, hx⟩)
  · have HB := Aside0.mk (hk.typ W.heap.size _ (blk_new W _))
    have HK := Aside0.mk (((KT.refl n₀ W).alloc hn (Obj.cells #[.int .i64 k, .int .i64 nn, .string nm, .slice A3 ls.length c3, .slice A4 ar.length c4] 26)).trans hk)
    have HJ := Aside0.mk hJ2
    have hc4 : W1.cell? ⟨W.heap.size, 4, none⟩ = some (.slice A4 ar.length c4) := blk_cell HB.out 4
    have HF := Aside0.mk hF
    have hlen := Kd.F_max hF
    have hn1 : n₀ ≤ W1.heap.size := Nat.le_trans hn HK.out.low.size
    clear hk hJ2 hF
    gi_wp2
    gi_loopw [14] (fun i wr => ∃ (kk : Nat) (ys : List NV), kk ≤ ar.length ∧ i = .int .i64 kk ∧ Aside0 (ys.map NV.x = (⟨k, nn, nm, ls, ar⟩ : S26) :: preL (ar.take kk)) ∧ Aside0 (J (pre ++ ys) wr) ∧ Aside0 (KT n₀ W wr)) (fun i _ => ar.length - (intOf i).toNat)
    case atStart => exact ⟨0, [⟨⟨k, nn, nm, ls, ar⟩, A3, c3, A4, c4⟩], Nat.zero_le _, rfl, ⟨by simp [preL]⟩, HJ, HK⟩
    case round =>
      obtain ⟨kk, ys, hkk, rfl, HM, HJ2, HK2⟩ := hrel
      clear hc4
      by_cases hlt : kk < ar.length
      · have hltZ : ((kk : Int) < (ar.length : Int)) := by omega
        obtain ⟨ad, B3, d3, B4, d4, e, h0, h1, h2, h3, h4, l3, g3, l4, g4⟩ := el26F (Kd.F_step HF.out (fun b hb _ => HK2.out.low.block b hb)) kk hlt
        cases e
        have hnr : n₀ ≤ wr.heap.size := Nat.le_trans hn HK2.out.low.size
        have HC := fun m => HIH.out ar[kk] (List.getElem_mem hlt) m B3 d3 B4 d4 (pre ++ ys) (wr.alloc (.cells #[.int .i64 ar[kk].f0, .int .i64 ar[kk].f1, .string ar[kk].f2, .slice B3 ar[kk].f3.length d3, .slice B4 ar[kk].f4.length d4] 26)) (Nat.le_trans hnr (by simp)) (Kd.F_alloc g4 _) (HJA.out _ _ _ HJ2.out) (by
          have hm : (pre ++ ys).length = pre.length + (1 + (preL (ar.take kk)).length) := by have e_ := congrArg List.length HM.out; simp only [List.length_map, List.length_cons] at e_; rw [List.length_append]; omega
          have ht : (preL ar).length = (preL (ar.take kk)).length + (preT ar[kk]).length + (preL (ar.drop (kk + 1))).length := by
            conv => lhs; rw [← List.take_append_drop (kk + 1) ar, preL_app, preL_take _ _ hlt]
            simp [Nat.add_assoc]
          have := HN.out
          rw [preT, List.length_cons] at this
          omega)
        have HC' := Aside0.mk HC
        clear HC g3 g4 l3 l4
        gi_wp2_with ((try refine ⟨trivial, fun h => (by cases h), ?_⟩); gi_at_call 101; refine (HC'.out _).mono ?_; rintro e W2 (⟨rfl, ⟨zs, hz, hJz⟩, hk⟩ | ⟨rfl, q, hq, hx⟩))
        · go_roundw
          case rel => exact ⟨kk + 1, ys ++ zs, by omega, by go_num, ⟨by rw [List.map_append, HM.out, hz, preL_take _ _ hlt]; rfl⟩, ⟨by rw [← List.append_assoc]; exact hJz⟩, ⟨(HK2.out.alloc hnr _).trans hk⟩⟩
          case measure => simp [intOf]; omega
        · go_ret
          refine .inr ⟨rfl, ys ++ q, ?_, by rw [← List.append_assoc]; exact hx⟩
          rw [List.map_append, HM.out, preT]
          have ht : preL ar = preL (ar.take kk) ++ (preT ar[kk] ++ preL (ar.drop (kk + 1))) := by
            conv => lhs; rw [← List.take_append_drop (kk + 1) ar, preL_app, preL_take _ _ hlt]
            simp
          rw [ht, List.cons_append]
          obtain ⟨r, hr⟩ := hq
          exact ⟨r ++ preL (ar.drop (kk + 1)), by rw [← hr]; simp⟩
      · have hltz : ¬ (kk : Int) < (ar.length : Int) := by omega
        have HE := Aside0.mk (show kk = ar.length from by omega)
        gi_wp2
        go_ret
        refine .inl ⟨rfl, ⟨ys, ?_, HJ2.out⟩, HK2.out⟩
        rw [HM.out, HE.out, List.take_length, preT]
  · gi_wp2
    go_ret
    exact .inr ⟨rfl, [⟨⟨k, nn, nm, ls, ar⟩, A3, c3, A4, c4⟩], ⟨preL ar, by simp [preT]⟩, hx⟩

set_option maxRecDepth 100000 in
set_option maxHeartbeats 2000000 in
theorem nodes1_in (l n₀ N : Nat) (J Jx : List NV → World → Prop) (hJa : ∀ pre W o, J pre W → J pre (World.alloc W o))
    (hY : ∀ m pre x W, J pre W → pre.length < N → YieldAt Fence.wide m Try.prog l #[NV.enc x] W fun e W' =>
      (e = .returned (.bool true) ∧ J (pre ++ [x]) W' ∧ KT n₀ W W') ∨ (e = .returned (.bool false) ∧ Jx (pre ++ [x]) W')) (t : S26) (n : Nat) (Bt : Nat) (A3 : Option Addr) (c3 : Nat) (A4 : Option Addr) (c4 : Nat) (W : World)
    (hn : n₀ ≤ W.heap.size) (hB : W.heap[Bt]? = some (.cells #[.int .i64 t.f0, .int .i64 t.f1, .string t.f2, .slice A3 t.f3.length c3, .slice A4 t.f4.length c4] 26 (0, 0))) (hF : Kd.F k26 W (fun k => k < n₀) A4 t.f4.length t.f4) (h0 : J [] W) (hN : (preT t).length ≤ N) :
    CallsIn Fence.wide n Try.prog 100 #[.func (.yield l) #[] #[], .pointer (some ⟨Bt, 0, none⟩)] W fun e W' => (∃ v, e = .returned v) ∧
      ((∃ ys : List NV, ys.map NV.x = preT t ∧ J ys W') ∨ (∃ pre : List NV, pre.map NV.x <+: preT t ∧ Jx pre W')) := by
  have hw := fun m => walk_in l n₀ N J Jx hJa hY t m A3 c3 A4 c4 [] W hn hF h0 (by simpa using hN)
  have HW := Aside0.mk hw
  have hc0 := blk_cell hB 0
  have hc1 := blk_cell hB 1
  have hc2 := blk_cell hB 2
  have hc3 := blk_cell hB 3
  have hc4 := blk_cell hB 4
  simp at hc0 hc1 hc2 hc3 hc4
  clear hw hJa hY hB hF h0 hN
  refine callsIn_of_wp Try.func100 rfl trivial ?_ rfl
  simp only [Try.ntmps100, List.size_toArray, List.length_cons, List.length_nil, Nat.reduceAdd, Nat.reduceSub, Array.replicate_succ, Array.replicate_zero, List.push_toArray, List.append_toArray, List.nil_append, List.cons_append]
  gi_wp2_with ((try refine ⟨trivial, fun h => (by cases h), ?_⟩); gi_at_call 101; refine (HW.out _).mono ?_; rintro e W1 (⟨rfl, ⟨ys, hy, hJ⟩, _⟩ | ⟨rfl, q, hq, hx⟩))
  · go_end0
    exact ⟨⟨_, rfl⟩, .inl ⟨ys, hy, hJ⟩⟩
  · go_end0
    exact ⟨⟨_, rfl⟩, .inr ⟨q, hq, hx⟩⟩

/-- ty.nodes: the type is boxed; the function value captures the box. -/
theorem nodes_in (n : Nat) (v : Array Value) (hv : ∃ a b c d e, v = #[.int .i64 a, .int .i64 b, .string c, d, e]) (w : World) : CallsIn Fence.wide n Try.prog 68 #[.agg v] w fun e w' => e = .returned (.func (.func 100) #[] #[.pointer (some ⟨w.heap.size, 0, none⟩)]) ∧ w' = w.alloc (.cells v 26) := by
  obtain ⟨a, b, c, d, e, rfl⟩ := hv
  refine callsIn_of_wp Try.func68 rfl trivial ?_ rfl
  simp only [Try.ntmps68, List.size_toArray, List.length_cons, List.length_nil, Nat.reduceAdd, Nat.reduceSub, Array.replicate_succ, Array.replicate_zero, List.push_toArray, List.append_toArray, List.nil_append, List.cons_append]
  gi_wp2
  go_ret
  exact ⟨rfl, rfl⟩
theorem nodes_stops (n : Nat) (t : S26) (n₀ Bt : Nat) (A3 : Option Addr) (c3 : Nat) (A4 : Option Addr) (c4 : Nat) (w : World) (hn : n₀ ≤ w.heap.size) (hB : w.heap[Bt]? = some (.cells #[.int .i64 t.f0, .int .i64 t.f1, .string t.f2, .slice A3 t.f3.length c3, .slice A4 t.f4.length c4] 26 (0, 0))) (hF : Kd.F k26 w (fun k => k < n₀) A4 t.f4.length t.f4) :
    SeqStopsK Fence.wide n Try.prog 100 #[.pointer (some ⟨Bt, 0, none⟩)] (fun x : NV => #[NV.enc x]) (KT n₀) (fun ys => ys.map NV.x = preT t) (fun pre => pre.map NV.x <+: preT t) (preT t).length w := fun l J Jx W hW hJ _ hY h0 => by
  exact nodes1_in l n₀ (preT t).length J Jx (fun pre W' o hj => hJ _ _ _ none hj (World.grownBy_alloc W' o none) (fun r e => by cases e)) (fun m pre x W' hj hl => yield_any m (hY pre x W' hj hl)) t n Bt A3 c3 A4 c4 W (Nat.le_trans hn hW.size) (blk_below hB hW) (Kd.F_below hF hW) h0 (Nat.le_refl _)
end Go.Proofs.Ytkeeknlfommieaa.PF
namespace Go.Proofs.Ytkeeknlfommieaa.PF
open Go.RowKit Go.Shelf Go.Sort Go.Proofs.YtkeeknlfommieaaW.PrintWords Go.Proofs.YtkeeknlfommieaaW.PrintLast Go.Proofs.YtkeeknlfommieaaW.PrintMore

/-- A field: a label, and a type as its cells hold it. -/
structure FE where
  l : ByteArray
  v : NV
instance : Inhabited FE := ⟨⟨ByteArray.empty, ⟨z26, none, 0, none, 0⟩⟩⟩
def FE.enc (e : FE) : List Value := [.string e.l, .int .i64 e.v.x.f0, .int .i64 e.v.x.f1, .string e.v.x.f2, .slice e.v.A3 e.v.x.f3.length e.v.c3, .slice e.v.A4 e.v.x.f4.length e.v.c4]
def FE.cf (a b : FE) : Int := Lib.compareBytes a.l.data.toList b.l.data.toList
theorem FE.hk (e : FE) : e.enc.length = 6 := rfl
theorem FE.h1 (e : FE) : ∀ v ∈ e.enc, v.oneCell' = true := by
  intro v hv
  simp only [FE.enc, List.mem_cons, List.not_mem_nil, or_false] at hv
  rcases hv with rfl | rfl | rfl | rfl | rfl | rfl <;> rfl

theorem compare_calls (a b : FE) (W : World) : Calls Try.prog 75 #[.agg a.enc.toArray, .agg b.enc.toArray] W fun e w' => e = .returned (.int .i64 (FE.cf a b)) ∧ ∃ q os', w' = grow (W.drewN q) os' := by
  obtain ⟨l, ⟨x, A3, c3, A4, c4⟩⟩ := a
  obtain ⟨m, ⟨y, B3, d3, B4, d4⟩⟩ := b
  dsimp only [FE.enc, FE.cf, List.toArray]
  go_enter Try.func75, Try.ntmps75
  go_wp2_with (go_at_call 105; refine (Try.strings_Compare _ _ _).mono ?_; rintro e w' ⟨rfl, rfl⟩)
  go_ret
  exact ⟨rfl, 0, _, by rw [World.drewN_zero, alloc_eq_grow, alloc_eq_grow, grow_grow]⟩
theorem compare_lays (blk off size : Nat) (w : World) : CmpLays Try.prog 75 #[] FE.enc 6 FE.cf blk off size w := by
  intro m os dk hs x y
  exact compare_calls x y _
theorem insertion_calls (blk off cap a b : Nat) (d : Array FE) (w : World) (hH : HoldsK FE.enc 6 w blk off d) (hblk : blk < w.heap.size) (hab : a ≤ b) (hb : b ≤ d.size) (hsz : d.size < 4611686018427387904) :
    Calls Try.prog 127 #[.slice (some ⟨blk, off, none⟩) d.size cap, .int .i64 a, .int .i64 b, .func (.func 75) #[] #[]] w fun e w' =>
      e = .returned (.tuple #[]) ∧ ∃ n os, w' = sortWorldK FE.enc 6 w blk off n (Sort.insertionSort (ltOf FE.cf) d a b) os :=
  AnyQ.insertionSortCmpFunc Try.lays127 6 Try.isAgg89 Try.sizeOf89 FE.enc FE.hk FE.h1 FE.cf 75 #[] blk off cap a b d w (enters_of Try.func75 (by kernel_rfl) rfl) (compare_lays _ _ _ _) hH hblk hab hb hsz
end Go.Proofs.Ytkeeknlfommieaa.PF
namespace Go.Proofs.Ytkeeknlfommieaa.PF
open Go.RowKit Go.Shelf Go.Sort Go.Proofs.YtkeeknlfommieaaW.PrintWords Go.Proofs.YtkeeknlfommieaaW.PrintLast Go.Proofs.YtkeeknlfommieaaW.PrintMore

def Sorted (g : Nat) (d : Array FE) (W : World) (e : Ending) (w' : World) : Prop :=
  e = .returned (.tuple #[]) ∧ ∃ d' n os, PermIn 0 d.size d d' ∧ SortedIn (ltOf FE.cf) 0 d.size d' ∧ w' = sortWorldK FE.enc 6 W g 0 n d' os
def SortOK (hi : Nat) : Prop := ∀ (g cap : Nat) (d : Array FE) (W : World), HoldsK FE.enc 6 W g 0 d → g < W.heap.size → 0 < d.size → d.size ≤ hi →
  Calls Try.prog 74 #[.slice (some ⟨g, 0, none⟩) d.size cap, .func (.func 75) #[] #[]] W (Sorted g d W)

theorem cmpL_lt : ∀ (a b : List UInt8), Lib.compareBytes a b < 0 ↔ a < b := by
  intro a
  induction a with
  | nil =>
    intro b
    cases b with
    | nil => simp [Lib.compareBytes]
    | cons y b => simp [Lib.compareBytes]
  | cons x a ih =>
    intro b
    cases b with
    | nil => simp [Lib.compareBytes]
    | cons y b =>
      rw [Lib.compareBytes, List.cons_lt_cons_iff]
      by_cases h1 : x < y
      · simp [h1]
      · by_cases h2 : y < x
        · have h3 : x ≠ y := by rintro rfl; exact h1 h2
          simp [h1, h2, h3]
        · have h3 : x = y := UInt8.le_antisymm (UInt8.not_lt.1 h2) (UInt8.not_lt.1 h1)
          simp [h1, h2, h3, ih]
theorem ltcf (a b : FE) : ltOf FE.cf a b = decide (a.l.data.toList < b.l.data.toList) := by
  unfold ltOf FE.cf
  rw [Bool.eq_iff_iff, decide_eq_true_iff, decide_eq_true_iff]
  exact cmpL_lt _ _
theorem swo : SWO (ltOf FE.cf) := by
  constructor
  · intro x; rw [ltcf]; simp [List.lt_irrefl]
  · intro x y z; rw [ltcf, ltcf, ltcf]; simp only [decide_eq_true_iff]; exact List.lt_trans
  · intro x y z; rw [ltcf, ltcf, ltcf]; simp only [decide_eq_false_iff_not, List.not_lt]; exact fun h1 h2 => List.le_trans h2 h1

set_option maxRecDepth 100000 in
set_option maxHeartbeats 2000000 in
theorem stable_small : ∀ (g cap : Nat) (d : Array FE) (W : World), HoldsK FE.enc 6 W g 0 d → g < W.heap.size → d.size < 20 →
    Calls Try.prog 104 #[.slice (some ⟨g, 0, none⟩) d.size cap, .int .i64 d.size, .func (.func 75) #[] #[]] W (Sorted g d W) := by
  intro g cap d W hH hg hd
  have hc := insertion_calls g 0 cap 0 d.size d W hH hg (Nat.zero_le _) (Nat.le_refl _) (by omega)
  have hs := insertionSort_holds (lt := ltOf FE.cf) swo d 0 d.size (Nat.zero_le _) (Nat.le_refl _)
  have HC := Aside0.mk hc
  have HS := Aside0.mk hs
  clear hc hs hH
  go_enter Try.func104, Try.ntmps104
  go_wp2
  refine wp_loop_rounds 1 ?_
  rw [rounds_succ]
  go_wp2_with (go_at_call 127; refine HC.out.mono ?_; rintro e w1 ⟨rfl, n, os, rfl⟩)
  refine wp_loop_rounds 1 ?_
  rw [rounds_succ]
  go_wp2
  go_end0
  exact ⟨rfl, _, n, os, HS.out.1, HS.out.2, rfl⟩
theorem sort_of {n : Nat} (h : ∀ (g cap : Nat) (d : Array FE) (W : World), HoldsK FE.enc 6 W g 0 d → g < W.heap.size → 0 < d.size → d.size ≤ n →
    Calls Try.prog 104 #[.slice (some ⟨g, 0, none⟩) d.size cap, .int .i64 d.size, .func (.func 75) #[] #[]] W (Sorted g d W)) : SortOK n := by
  intro g cap d W hH hg h0 hd
  have HC := Aside0.mk (h g cap d W hH hg h0 hd)
  clear h hH hd h0 hg
  go_enter Try.func74, Try.ntmps74
  go_wp2_with (go_at_call 104; refine HC.out.mono ?_; rintro e w1 ⟨rfl, h2⟩)
  go_end0
  exact ⟨rfl, h2⟩
theorem sort_small : SortOK 19 := sort_of fun g cap d W hH hg _ hd => stable_small g cap d W hH hg (by omega)

theorem insertion_none (cap : Nat) (W : World) : Calls Try.prog 127 #[.slice none 0 cap, .int .i64 0, .int .i64 0, .func (.func 75) #[] #[]] W fun e w' => e = .returned (.tuple #[]) ∧ w' = W := by
  go_enter Try.func127, Try.ntmps127
  go_wp2
  refine wp_loop_rounds 1 ?_
  rw [rounds_succ]
  go_wp2
  go_end0
  exact ⟨rfl, rfl⟩
theorem stable_none (cap : Nat) (W : World) : Calls Try.prog 104 #[.slice none 0 cap, .int .i64 0, .func (.func 75) #[] #[]] W fun e w' => e = .returned (.tuple #[]) ∧ w' = W := by
  go_enter Try.func104, Try.ntmps104
  go_wp2
  refine wp_loop_rounds 1 ?_
  rw [rounds_succ]
  go_wp2_with (go_at_call 127; refine (insertion_none _ _).mono ?_; rintro e w1 ⟨rfl, rfl⟩)
  refine wp_loop_rounds 1 ?_
  rw [rounds_succ]
  go_wp2
  go_end0
  exact ⟨rfl, rfl⟩
theorem sort_none (cap : Nat) (W : World) : Calls Try.prog 74 #[.slice none 0 cap, .func (.func 75) #[] #[]] W fun e w' => e = .returned (.tuple #[]) ∧ w' = W := by
  go_enter Try.func74, Try.ntmps74
  go_wp2_with (go_at_call 104; refine (stable_none _ _).mono ?_; rintro e w1 ⟨rfl, rfl⟩)
  go_end0
  exact ⟨rfl, rfl⟩
end Go.Proofs.Ytkeeknlfommieaa.PF
namespace Go.Proofs.Ytkeeknlfommieaa.PF
open Go.RowKit Go.Shelf Go.Proofs.YtkeeknlfommieaaW.PrintWords Go.Proofs.YtkeeknlfommieaaW.PrintLast Go.Proofs.YtkeeknlfommieaaW.PrintMore
attribute [local go_sem] Oper.semAt_some

set_option maxRecDepth 100000 in
set_option maxHeartbeats 2000000 in
theorem nodes_calls (t : S26) (w : World) (A3 : Option Addr) (c3 : Nat) (A4 : Option Addr) (c4 : Nat) (g4 : k26.C w A4 t.f4.length t.f4) (hbig : (preT t).length ≤ 4611686018427387904) :
    Calls Try.prog 27 #[.agg #[.int .i64 t.f0, .int .i64 t.f1, .string t.f2, .slice A3 t.f3.length c3, .slice A4 t.f4.length c4]] w fun e w' => e = .returned (.int .i64 (preT t).length) ∧ Below w.heap.size w w' := by
  have HF := Aside0.mk (Kd.C_F k26_heap g4)
  have HBIG := Aside0.mk hbig
  clear g4 hbig
  refine (callsIn_wide (n := 3)).1 ?_
  refine callsIn_of_wp_marks Try.func27 rfl trivial ?_ rfl
  simp only [Try.ntmps27, List.size_toArray, List.length_cons, List.length_nil, Nat.reduceAdd, Nat.reduceSub, Array.replicate_succ, Array.replicate_zero, List.push_toArray, List.append_toArray, List.nil_append, List.cons_append]
  gi_wp2_with ((try first | refine ⟨trivial, fun h => (by cases h), ?_⟩ | refine ⟨trivial, ?_⟩); gi_at_call 68; refine (nodes_in _ _ ⟨_, _, _, _, _, rfl⟩ _).mono ?_; rintro e w' ⟨rfl, rfl⟩)
  have hbt := blk_new ((w.alloc (.cells #[.int .i64 t.f0, .int .i64 t.f1, .string t.f2, .slice A3 t.f3.length c3, .slice A4 t.f4.length c4] 26)).alloc (.cells #[.int .i64 0] 3)) (.cells #[.int .i64 t.f0, .int .i64 t.f1, .string t.f2, .slice A3 t.f3.length c3, .slice A4 t.f4.length c4] 26)
  have hbn := blk_alloc (blk_new (w.alloc (.cells #[.int .i64 t.f0, .int .i64 t.f1, .string t.f2, .slice A3 t.f3.length c3, .slice A4 t.f4.length c4] 26)) (.cells #[.int .i64 0] 3)) (.cells #[.int .i64 t.f0, .int .i64 t.f1, .string t.f2, .slice A3 t.f3.length c3, .slice A4 t.f4.length c4] 26)
  simp only [World.size_alloc] at hbt hbn
  have hb0 : Below w.heap.size w (((w.alloc (.cells #[.int .i64 t.f0, .int .i64 t.f1, .string t.f2, .slice A3 t.f3.length c3, .slice A4 t.f4.length c4] 26)).alloc (.cells #[.int .i64 0] 3)).alloc (.cells #[.int .i64 t.f0, .int .i64 t.f1, .string t.f2, .slice A3 t.f3.length c3, .slice A4 t.f4.length c4] 26)) :=
    below_alloc (below_alloc (below_alloc (Below.refl _ _) _) _) _
  obtain ⟨W0, hW0⟩ : ∃ W0, ((w.alloc (.cells #[.int .i64 t.f0, .int .i64 t.f1, .string t.f2, .slice A3 t.f3.length c3, .slice A4 t.f4.length c4] 26)).alloc (.cells #[.int .i64 0] 3)).alloc (.cells #[.int .i64 t.f0, .int .i64 t.f1, .string t.f2, .slice A3 t.f3.length c3, .slice A4 t.f4.length c4] 26) = W0 := ⟨_, rfl⟩
  have hsz : W0.heap.size = w.heap.size + 3 := by rw [← hW0]; simp
  rw [hW0] at hbt hbn hb0 ⊢
  refine wpIn_rangeFunc_ownH rfl (by omega) (gf := 100) (lb := #[.pointer (some ⟨w.heap.size + 1 + 1, 0, none⟩)]) rfl trivial (enters_of Try.func100 (by kernel_rfl) rfl)
    (nodes_stops _ t w.heap.size (w.heap.size + 1 + 1) A3 c3 A4 c4 W0 (by omega) hbt (Kd.F_step HF.out (fun b hb _ => hb0.block b hb))) (fun h k => h.trans k) (fun W l o o' hl h hc hw => kt_b (by omega) W l o o' hl h hc hw) (Below.refl _ _) (fun _ => rfl)
    (fun pre W => W.heap[w.heap.size + 1]? = some (.cells #[.int .i64 pre.length] 3 (0, 0)) ∧ Below w.heap.size w W) (fun _ _ _ => False) ?hI ?hIx ⟨hbn, hb0⟩
    (fun x a' _ => a' = { tmps := #[Value.agg #[.int .i64 t.f0, .int .i64 t.f1, .string t.f2, .slice A3 t.f3.length c3, .slice A4 t.f4.length c4], .pointer (some ⟨w.heap.size, 0, none⟩), .int .i64 0, .pointer (some ⟨w.heap.size + 1, 0, none⟩), Value.agg #[.int .i64 t.f0, .int .i64 t.f1, .string t.f2, .slice A3 t.f3.length c3, .slice A4 t.f4.length c4], .func (.func 100) #[] #[.pointer (some ⟨w.heap.size + 1 + 1, 0, none⟩)], x.enc, undef, undef, undef], defers := [] }) ?hAx ?assign ?body ?done ?stop
  case hI =>
    rintro s A B row ⟨h1, h2⟩ hg hr
    exact ⟨blk_grown h1 hg (fun e => by have := (hr _ e.symm).1; omega), h2.grown hg h2.size (fun r e => by have := (hr _ e).1; omega)⟩
  case hIx => exact fun _ _ _ _ _ hs _ _ => hs
  case hAx => exact fun _ _ _ _ _ _ hs _ _ => hs
  case assign =>
    intro l pre x W K hi hK
    gi_wp2
    refine hK _ _ (KeepsFrom.refl _ _) (KT.refl _ _) hi ?_
    simp
  case body =>
    rintro l pre x a' W hl _ ⟨h1, h2⟩ rfl hlt
    have hc := blk_cell h1 0
    have hf := blk_frozen h1 0
    simp at hc
    have HPL := Aside0.mk (show wrap64 ((pre.length : Int) + 1) = ((pre ++ [x]).length : Int) from by have := HBIG.out; unfold wrap64; simp; omega)
    gi_wp2
    refine ⟨(KeepsOthers.setCell _ _ _).from _, ⟨(Below.refl _ _).setCell (p := ⟨w.heap.size + 1, 0, none⟩) (by simp) _, fun b c hb => ?_⟩, ?_, h2.setCell (p := ⟨w.heap.size + 1, 0, none⟩) (by simp) _⟩
    · have hne : b ≠ w.heap.size + 1 := by rintro rfl; rw [h1] at hb; cases hb
      exact (Below.heap_setCell _ _ _ _ hne).trans hb
    · rw [HPL.out]
      exact blk_put h1 0 _ rfl
  case done =>
    rintro D ys W hD hy ⟨h1, h2⟩ hK
    have hc := blk_cell h1 0
    simp at hc
    gi_wp2
    refine ⟨by simp, .inl ⟨_, _, rfl, run_takeDeferred hK, ?_⟩⟩
    have hl : (ys.length : Int) = ((preT t).length : Int) := by rw [← hy, List.length_map]
    refine ⟨_, results_tmp rfl _ _ _, ?_⟩
    refine ⟨congrArg (fun z : Int => Ending.returned (.int .i64 z)) hl, ?_⟩
    exact h2.trans (belowK_b (w := w) (Nat.le_refl _) W D _ _ (by omega) hK rfl rfl)
  case stop =>
    rintro D c pre W _ _ h _
    exact h.elim

set_option maxRecDepth 100000 in
set_option maxHeartbeats 2000000 in
theorem fits_calls (t : S26) (w : World) (A3 : Option Addr) (c3 : Nat) (A4 : Option Addr) (c4 : Nat) (g4 : k26.C w A4 t.f4.length t.f4) :
    Calls Try.prog 35 #[Value.agg #[.int .i64 t.f0, .int .i64 t.f1, .string t.f2, .slice A3 t.f3.length c3, .slice A4 t.f4.length c4]] w fun e w' => e = .returned (.bool (decide ((preT t).length ≤ 300))) ∧ Below w.heap.size w w' := by
  have HF := Aside0.mk (Kd.C_F k26_heap g4)
  clear g4
  refine (callsIn_wide (n := 3)).1 ?_
  refine callsIn_of_wp_marks Try.func35 rfl trivial ?_ rfl
  simp only [Try.ntmps35, List.size_toArray, List.length_cons, List.length_nil, Nat.reduceAdd, Nat.reduceSub, Array.replicate_succ, Array.replicate_zero, List.push_toArray, List.append_toArray, List.nil_append, List.cons_append]
  gi_wp2_with ((try first | refine ⟨trivial, fun h => (by cases h), ?_⟩ | refine ⟨trivial, ?_⟩); gi_at_call 68; refine (nodes_in _ _ ⟨_, _, _, _, _, rfl⟩ _).mono ?_; rintro e w' ⟨rfl, rfl⟩)
  have hbt := blk_new ((((w.alloc (.cells #[.int .i64 t.f0, .int .i64 t.f1, .string t.f2, .slice A3 t.f3.length c3, .slice A4 t.f4.length c4] 26)).alloc (.cells #[.bool false] 4)).alloc (.cells #[.int .i64 0] 3))) (.cells #[.int .i64 t.f0, .int .i64 t.f1, .string t.f2, .slice A3 t.f3.length c3, .slice A4 t.f4.length c4] 26)
  have hbr := blk_alloc (blk_alloc (blk_new ((w.alloc (.cells #[.int .i64 t.f0, .int .i64 t.f1, .string t.f2, .slice A3 t.f3.length c3, .slice A4 t.f4.length c4] 26))) (.cells #[.bool false] 4)) (.cells #[.int .i64 0] 3)) (.cells #[.int .i64 t.f0, .int .i64 t.f1, .string t.f2, .slice A3 t.f3.length c3, .slice A4 t.f4.length c4] 26)
  have hbn := blk_alloc (blk_new (((w.alloc (.cells #[.int .i64 t.f0, .int .i64 t.f1, .string t.f2, .slice A3 t.f3.length c3, .slice A4 t.f4.length c4] 26)).alloc (.cells #[.bool false] 4))) (.cells #[.int .i64 0] 3)) (.cells #[.int .i64 t.f0, .int .i64 t.f1, .string t.f2, .slice A3 t.f3.length c3, .slice A4 t.f4.length c4] 26)
  simp only [World.size_alloc] at hbt hbr hbn
  have hb0 : Below w.heap.size w (((((w.alloc (.cells #[.int .i64 t.f0, .int .i64 t.f1, .string t.f2, .slice A3 t.f3.length c3, .slice A4 t.f4.length c4] 26)).alloc (.cells #[.bool false] 4)).alloc (.cells #[.int .i64 0] 3)).alloc (.cells #[.int .i64 t.f0, .int .i64 t.f1, .string t.f2, .slice A3 t.f3.length c3, .slice A4 t.f4.length c4] 26))) := below_alloc (below_alloc (below_alloc (below_alloc (Below.refl _ _) _) _) _) _
  obtain ⟨W0, hW0⟩ : ∃ W0, ((((w.alloc (.cells #[.int .i64 t.f0, .int .i64 t.f1, .string t.f2, .slice A3 t.f3.length c3, .slice A4 t.f4.length c4] 26)).alloc (.cells #[.bool false] 4)).alloc (.cells #[.int .i64 0] 3)).alloc (.cells #[.int .i64 t.f0, .int .i64 t.f1, .string t.f2, .slice A3 t.f3.length c3, .slice A4 t.f4.length c4] 26)) = W0 := ⟨_, rfl⟩
  have hsz : W0.heap.size = w.heap.size + 4 := by rw [← hW0]; simp
  rw [hW0] at hbt hbr hbn hb0 ⊢
  refine wpIn_rangeFunc_ownH rfl (by omega) (gf := 100) (lb := #[.pointer (some ⟨w.heap.size + 1 + 1 + 1, 0, none⟩)]) rfl trivial (enters_of Try.func100 (by kernel_rfl) rfl)
    (nodes_stops _ t w.heap.size (w.heap.size + 1 + 1 + 1) A3 c3 A4 c4 W0 (by omega) hbt (Kd.F_step HF.out (fun b hb _ => hb0.block b hb))) (fun h k => h.trans k) (fun W l o o' hl h hc hw => kt_b (by omega) W l o o' hl h hc hw) (Below.refl _ _) (fun _ => rfl)
    (fun pre W => W.heap[w.heap.size + 1 + 1]? = some (.cells #[.int .i64 pre.length] 3 (0, 0)) ∧ W.heap[w.heap.size + 1]? = some (.cells #[.bool false] 4 (0, 0)) ∧ pre.length ≤ 300 ∧ Below w.heap.size w W)
    (fun c pre W => c = .ret ∧ W.heap[w.heap.size + 1]? = some (.cells #[.bool false] 4 (0, 0)) ∧ 300 < pre.length ∧ Below w.heap.size w W) ?hI ?hIx ⟨hbn, hbr, Nat.zero_le _, hb0⟩
    (fun x a' _ => a' = { tmps := #[Value.agg #[.int .i64 t.f0, .int .i64 t.f1, .string t.f2, .slice A3 t.f3.length c3, .slice A4 t.f4.length c4], .pointer (some ⟨w.heap.size, 0, none⟩), .pointer (some ⟨w.heap.size + 1, 0, none⟩), .pointer (some ⟨w.heap.size + 1 + 1, 0, none⟩), Value.agg #[.int .i64 t.f0, .int .i64 t.f1, .string t.f2, .slice A3 t.f3.length c3, .slice A4 t.f4.length c4], .func (.func 100) #[] #[.pointer (some ⟨w.heap.size + 1 + 1 + 1, 0, none⟩)], x.enc, undef, undef, undef, undef], defers := [] }) ?hAx ?assign ?body ?done ?stop
  case hI =>
    rintro s A B row ⟨h1, h2, h3, h4⟩ hg hr
    exact ⟨blk_grown h1 hg (fun e => by have := (hr _ e.symm).1; omega), blk_grown h2 hg (fun e => by have := (hr _ e.symm).1; omega), h3, h4.grown hg h4.size (fun r e => by have := (hr _ e).1; omega)⟩
  case hIx =>
    rintro c s A B row ⟨h1, h2, h3, h4⟩ hg hr
    exact ⟨h1, blk_grown h2 hg (fun e => by have := (hr _ e.symm).1; omega), h3, h4.grown hg h4.size (fun r e => by have := (hr _ e).1; omega)⟩
  case hAx => exact fun _ _ _ _ _ _ hs _ _ => hs
  case assign =>
    intro l pre x W K hi hK
    gi_wp2
    refine hK _ _ (KeepsFrom.refl _ _) (KT.refl _ _) hi ?_
    simp
  case body =>
    rintro l pre x a' W hl _ ⟨h1, h2, h3, h4⟩ rfl hlt
    have hc := blk_cell h1 0
    have hf := blk_frozen h1 0
    have hc2 := blk_cell h2 0
    have hf2 := blk_frozen h2 0
    simp at hc hc2
    have HPL := Aside0.mk (show ((pre.length : Int) + 1) = ((pre ++ [x]).length : Int) from by simp)
    have hp0 : (0 : Int) ≤ (pre.length : Int) := by omega
    have hp1 : (pre.length : Int) ≤ 300 := by omega
    have HB2 := Aside0.mk (show (W.setCell ⟨w.heap.size + 1 + 1, 0, none⟩ (.int .i64 ((pre.length : Int) + 1))).heap[w.heap.size + 1 + 1]? = some (.cells #[.int .i64 ((pre.length : Int) + 1)] 3 (0, 0)) from blk_put h1 0 _ rfl)
    have HB1 := Aside0.mk (show (W.setCell ⟨w.heap.size + 1 + 1, 0, none⟩ (.int .i64 ((pre.length : Int) + 1))).heap[w.heap.size + 1]? = some (.cells #[.bool false] 4 (0, 0)) from blk_far h2 (by simp) _)
    have hcn := blk_cell HB2.out 0
    have hcr := blk_cell HB1.out 0
    have hfr := blk_frozen HB1.out 0
    simp at hcn hcr
    have HH := Aside0.mk (show KT w.heap.size W (W.setCell ⟨w.heap.size + 1 + 1, 0, none⟩ (.int .i64 ((pre.length : Int) + 1))) from ⟨(Below.refl _ _).setCell (p := ⟨w.heap.size + 1 + 1, 0, none⟩) (by simp; omega) _, fun b c hb => by
      have hne : b ≠ w.heap.size + 1 + 1 := by rintro rfl; rw [h1] at hb; cases hb
      exact (Below.heap_setCell _ _ _ _ hne).trans hb⟩)
    have H4 := Aside0.mk h4
    have HL := Aside0.mk h3
    clear h1 h2 h3 h4 hc2 hf2
    by_cases hgt : 300 < (pre.length : Int) + 1
    · gi_wp2
      refine ⟨((KeepsOthers.setCell _ _ _).trans (KeepsOthers.setCell _ _ _)).from _, rfl, ?_, ?_, ?_⟩
      · exact blk_put HB1.out 0 _ rfl
      · simp; omega
      · exact (H4.out.trans HH.out.low).setCell (p := ⟨w.heap.size + 1, 0, none⟩) (by simp) _
    · gi_wp2
      refine ⟨(KeepsOthers.setCell _ _ _).from _, HH.out, ?_, HB1.out, ?_, H4.out.trans HH.out.low⟩
      · rw [← HPL.out]; exact HB2.out
      · simp; omega
  case done =>
    rintro D ys W hD hy ⟨h1, h2, h3, h4⟩ hK
    have hcr := blk_cell h2 0
    have hfr := blk_frozen h2 0
    simp at hcr
    have HY := Aside0.mk (show decide ((preT t).length ≤ 300) = true from by rw [← hy, List.length_map]; exact decide_eq_true h3)
    have H2 := Aside0.mk h2
    clear h1 h2 h3 hy
    gi_wp2
    have hK' := (KeepsOthers.setCell W ⟨w.heap.size + 1, 0, none⟩ (.bool true)).same D _ hK rfl
    refine ⟨by simp, .inl ⟨_, _, rfl, run_takeDeferred hK', ?_⟩⟩
    have hc5 := cell_kept (show (W.setCell ⟨w.heap.size + 1, 0, none⟩ (.bool true)).cell? ⟨w.heap.size + 1, 0, none⟩ = some (.bool true) from blk_cell (blk_put H2.out 0 _ rfl) 0) (grownBy_putObj' _ D (.deferred none)) (fun r e => by cases e; exact ⟨_, hK', rfl⟩)
    refine ⟨.bool true, ?_, by rw [HY.out], ?_⟩
    · simp [results, Try.f35, go_sem, hc5]
    · exact (h4.setCell (p := ⟨w.heap.size + 1, 0, none⟩) (by simp) _).trans (belowK_b (w := w) (Nat.le_refl _) _ D _ _ (by omega) hK' rfl rfl)
  case stop =>
    rintro D c pre W hD hp ⟨rfl, h2, h3, h4⟩ hK
    have HY := Aside0.mk (show decide ((preT t).length ≤ 300) = false from decide_eq_false (by have := hp.length_le; rw [List.length_map] at this; omega))
    have hc5 := cell_kept (show W.cell? ⟨w.heap.size + 1, 0, none⟩ = some (.bool false) from blk_cell h2 0) (grownBy_putObj' _ D (.deferred none)) (fun r e => by cases e; exact ⟨_, hK, rfl⟩)
    clear h2 h3 hp
    gi_wp2
    refine ⟨by simp, .inl ⟨_, _, rfl, run_takeDeferred hK, ?_⟩⟩
    refine ⟨.bool false, ?_, by rw [HY.out], ?_⟩
    · simp [results, Try.f35, go_sem, hc5]
    · exact h4.trans (belowK_b (w := w) (Nat.le_refl _) _ D _ _ (by omega) hK rfl rfl)

def hasT (t : S26) (kd : Int) : Bool := (preT t).any fun x => decide (x.f0 = kd)
theorem NV.enc_eq (v : NV) : v.enc = .agg #[.int .i64 v.x.f0, .int .i64 v.x.f1, .string v.x.f2, .slice v.A3 v.x.f3.length v.c3, .slice v.A4 v.x.f4.length v.c4] := rfl
set_option maxRecDepth 100000 in
set_option maxHeartbeats 2000000 in
theorem has_calls (t : S26) (kd : Int) (w : World) (A3 : Option Addr) (c3 : Nat) (A4 : Option Addr) (c4 : Nat) (g4 : k26.C w A4 t.f4.length t.f4) :
    Calls Try.prog 31 #[Value.agg #[.int .i64 t.f0, .int .i64 t.f1, .string t.f2, .slice A3 t.f3.length c3, .slice A4 t.f4.length c4], .int .i64 kd] w fun e w' => e = .returned (.bool (hasT t kd)) ∧ Below w.heap.size w w' := by
  have HF := Aside0.mk (Kd.C_F k26_heap g4)
  clear g4
  refine (callsIn_wide (n := 3)).1 ?_
  refine callsIn_of_wp_marks Try.func31 rfl trivial ?_ rfl
  simp only [Try.ntmps31, List.size_toArray, List.length_cons, List.length_nil, Nat.reduceAdd, Nat.reduceSub, Array.replicate_succ, Array.replicate_zero, List.push_toArray, List.append_toArray, List.nil_append, List.cons_append]
  gi_wp2_with ((try first | refine ⟨trivial, fun h => (by cases h), ?_⟩ | refine ⟨trivial, ?_⟩); gi_at_call 68; refine (nodes_in _ _ ⟨_, _, _, _, _, rfl⟩ _).mono ?_; rintro e w' ⟨rfl, rfl⟩)
  have hbt := blk_new ((((w.alloc (.cells #[.int .i64 t.f0, .int .i64 t.f1, .string t.f2, .slice A3 t.f3.length c3, .slice A4 t.f4.length c4] 26)).alloc (.cells #[.int .i64 kd] 3)).alloc (.cells #[.bool false] 4))) (.cells #[.int .i64 t.f0, .int .i64 t.f1, .string t.f2, .slice A3 t.f3.length c3, .slice A4 t.f4.length c4] 26)
  have hbk := blk_alloc (blk_alloc (blk_new ((w.alloc (.cells #[.int .i64 t.f0, .int .i64 t.f1, .string t.f2, .slice A3 t.f3.length c3, .slice A4 t.f4.length c4] 26))) (.cells #[.int .i64 kd] 3)) (.cells #[.bool false] 4)) (.cells #[.int .i64 t.f0, .int .i64 t.f1, .string t.f2, .slice A3 t.f3.length c3, .slice A4 t.f4.length c4] 26)
  have hbr := blk_alloc (blk_new (((w.alloc (.cells #[.int .i64 t.f0, .int .i64 t.f1, .string t.f2, .slice A3 t.f3.length c3, .slice A4 t.f4.length c4] 26)).alloc (.cells #[.int .i64 kd] 3))) (.cells #[.bool false] 4)) (.cells #[.int .i64 t.f0, .int .i64 t.f1, .string t.f2, .slice A3 t.f3.length c3, .slice A4 t.f4.length c4] 26)
  simp only [World.size_alloc] at hbt hbr hbk
  have hb0 : Below w.heap.size w (((((w.alloc (.cells #[.int .i64 t.f0, .int .i64 t.f1, .string t.f2, .slice A3 t.f3.length c3, .slice A4 t.f4.length c4] 26)).alloc (.cells #[.int .i64 kd] 3)).alloc (.cells #[.bool false] 4)).alloc (.cells #[.int .i64 t.f0, .int .i64 t.f1, .string t.f2, .slice A3 t.f3.length c3, .slice A4 t.f4.length c4] 26))) := below_alloc (below_alloc (below_alloc (below_alloc (Below.refl _ _) _) _) _) _
  obtain ⟨W0, hW0⟩ : ∃ W0, ((((w.alloc (.cells #[.int .i64 t.f0, .int .i64 t.f1, .string t.f2, .slice A3 t.f3.length c3, .slice A4 t.f4.length c4] 26)).alloc (.cells #[.int .i64 kd] 3)).alloc (.cells #[.bool false] 4)).alloc (.cells #[.int .i64 t.f0, .int .i64 t.f1, .string t.f2, .slice A3 t.f3.length c3, .slice A4 t.f4.length c4] 26)) = W0 := ⟨_, rfl⟩
  have hsz : W0.heap.size = w.heap.size + 4 := by rw [← hW0]; simp
  rw [hW0] at hbt hbr hbk hb0 ⊢
  refine wpIn_rangeFunc_ownH rfl (by omega) (gf := 100) (lb := #[.pointer (some ⟨w.heap.size + 1 + 1 + 1, 0, none⟩)]) rfl trivial (enters_of Try.func100 (by kernel_rfl) rfl)
    (nodes_stops _ t w.heap.size (w.heap.size + 1 + 1 + 1) A3 c3 A4 c4 W0 (by omega) hbt (Kd.F_step HF.out (fun b hb _ => hb0.block b hb))) (fun h k => h.trans k) (fun W l o o' hl h hc hw => kt_b (by omega) W l o o' hl h hc hw) (Below.refl _ _) (fun _ => rfl)
    (fun pre W => W.heap[w.heap.size + 1]? = some (.cells #[.int .i64 kd] 3 (0, 0)) ∧ W.heap[w.heap.size + 1 + 1]? = some (.cells #[.bool false] 4 (0, 0)) ∧ (∀ v ∈ pre, v.x.f0 ≠ kd) ∧ Below w.heap.size w W ∧ w.heap.size + 4 ≤ W.heap.size)
    (fun c pre W => c = .ret ∧ W.heap[w.heap.size + 1 + 1]? = some (.cells #[.bool true] 4 (0, 0)) ∧ (∃ v ∈ pre, v.x.f0 = kd) ∧ Below w.heap.size w W) ?hI ?hIx ⟨hbk, hbr, fun v hv => (by cases hv), hb0, by omega⟩
    (fun x a' W => ∃ Bx, W0.heap.size ≤ Bx ∧ W.heap[Bx]? = some (.cells #[.int .i64 x.x.f0, .int .i64 x.x.f1, .string x.x.f2, .slice x.A3 x.x.f3.length x.c3, .slice x.A4 x.x.f4.length x.c4] 26 (0, 0)) ∧ a' = { tmps := #[Value.agg #[.int .i64 t.f0, .int .i64 t.f1, .string t.f2, .slice A3 t.f3.length c3, .slice A4 t.f4.length c4], .int .i64 kd, .pointer (some ⟨w.heap.size, 0, none⟩), .pointer (some ⟨w.heap.size + 1, 0, none⟩), .pointer (some ⟨w.heap.size + 1 + 1, 0, none⟩), .pointer (some ⟨Bx, 0, none⟩), Value.agg #[.int .i64 t.f0, .int .i64 t.f1, .string t.f2, .slice A3 t.f3.length c3, .slice A4 t.f4.length c4], .func (.func 100) #[] #[.pointer (some ⟨w.heap.size + 1 + 1 + 1, 0, none⟩)], x.enc, undef, undef, undef, undef], defers := [] }) ?hAx ?assign ?body ?done ?stop
  case hI =>
    rintro s A B row ⟨h1, h2, h3, h4, h5⟩ hg hr
    exact ⟨blk_grown h1 hg (fun e => by have := (hr _ e.symm).1; omega), blk_grown h2 hg (fun e => by have := (hr _ e.symm).1; omega), h3, h4.grown hg h4.size (fun r e => by have := (hr _ e).1; omega), Nat.le_trans h5 hg.size⟩
  case hIx =>
    rintro c s A B row ⟨h1, h2, h3, h4⟩ hg hr
    exact ⟨h1, blk_grown h2 hg (fun e => by have := (hr _ e.symm).1; omega), h3, h4.grown hg h4.size (fun r e => by have := (hr _ e).1; omega)⟩
  case hAx =>
    rintro x a' _ A B row ⟨Bx, h1, h2, h3⟩ hg hr
    refine ⟨Bx, h1, blk_grown h2 hg (fun e => ?_), h3⟩
    obtain ⟨_, o, ho, hc⟩ := hr _ e.symm
    rw [ho] at h2
    cases h2
    simp [Obj.isCells] at hc
  case assign =>
    intro l pre x W K hi hK
    have hi5 := hi.2.2.2.2
    simp only [NV.enc_eq] at hK ⊢
    gi_wp2
    exact hK _ _ ((KeepsOthers.alloc _ _).from _) ((KT.refl _ _).alloc (by omega) _) ⟨blk_alloc hi.1 _, blk_alloc hi.2.1 _, hi.2.2.1, hi.2.2.2.1.alloc (by omega) _, by simp; omega⟩ ⟨W.heap.size, by omega, blk_new _ _, by simp⟩
  case body =>
    rintro l pre x a' W hl _ ⟨h1, h2, h3, h4, h5⟩ ⟨Bx, hB1, hB2, rfl⟩ hlt
    have hc := blk_cell h1 0
    have hc2 := blk_cell h2 0
    have hf2 := blk_frozen h2 0
    have hcx := blk_cell hB2 0
    simp at hc hc2 hcx
    have H1 := Aside0.mk h1
    have H2 := Aside0.mk h2
    have H3 := Aside0.mk h3
    have H4 := Aside0.mk h4
    clear h1 h2 h3 h4 hB2
    simp only [NV.enc_eq]
    by_cases he : x.x.f0 = kd
    · have he' : (x.x.f0 == kd) = true := beq_iff_eq.2 he
      have HE := Aside0.mk he
      clear he
      gi_wp2
      refine ⟨(KeepsOthers.setCell _ _ _).from _, rfl, blk_put H2.out 0 _ rfl, ⟨x, by simp, HE.out⟩, H4.out.setCell (p := ⟨w.heap.size + 1 + 1, 0, none⟩) (by simp; omega) _⟩
    · have he' : (x.x.f0 == kd) = false := beq_eq_false_iff_ne.2 he
      have HE := Aside0.mk he
      clear he
      gi_wp2
      refine ⟨KeepsFrom.refl _ _, KT.refl _ _, H1.out, H2.out, fun v hv => ?_, H4.out, h5⟩
      rcases List.mem_append.1 hv with hv | hv
      · exact H3.out v hv
      · rw [List.mem_singleton.1 hv]; exact HE.out
  case done =>
    rintro D ys W hD hy ⟨h1, h2, h3, h4, h5⟩ hK
    have hcr := blk_cell h2 0
    have hfr := blk_frozen h2 0
    simp at hcr
    have HY := Aside0.mk (show hasT t kd = false from by
      unfold hasT; rw [← hy, List.any_map, List.any_eq_false]; exact fun v hv => by simpa using h3 v hv)
    have H2 := Aside0.mk h2
    clear h1 h2 h3 hy
    gi_wp2
    have hK' := (KeepsOthers.setCell W ⟨w.heap.size + 1 + 1, 0, none⟩ (.bool false)).same D _ hK rfl
    refine ⟨by simp, .inl ⟨_, _, rfl, run_takeDeferred hK', ?_⟩⟩
    have hc5 := cell_kept (show (W.setCell ⟨w.heap.size + 1 + 1, 0, none⟩ (.bool false)).cell? ⟨w.heap.size + 1 + 1, 0, none⟩ = some (.bool false) from blk_cell (blk_put H2.out 0 _ rfl) 0) (grownBy_putObj' _ D (.deferred none)) (fun r e => by cases e; exact ⟨_, hK', rfl⟩)
    refine ⟨.bool false, ?_, by rw [HY.out], ?_⟩
    · simp [results, Try.f31, go_sem, hc5]
    · exact (h4.setCell (p := ⟨w.heap.size + 1 + 1, 0, none⟩) (by simp; omega) _).trans (belowK_b (w := w) (Nat.le_refl _) _ D _ _ (by omega) hK' rfl rfl)
  case stop =>
    rintro D c pre W hD hp ⟨rfl, h2, ⟨v, hv, h3⟩, h4⟩ hK
    have HY := Aside0.mk (show hasT t kd = true from by
      unfold hasT; rw [List.any_eq_true]; exact ⟨v.x, hp.subset (List.mem_map.2 ⟨v, hv, rfl⟩), decide_eq_true h3⟩)
    have hc5 := cell_kept (show W.cell? ⟨w.heap.size + 1 + 1, 0, none⟩ = some (.bool true) from blk_cell h2 0) (grownBy_putObj' _ D (.deferred none)) (fun r e => by cases e; exact ⟨_, hK, rfl⟩)
    clear h2 h3 hp hv
    gi_wp2
    refine ⟨by simp, .inl ⟨_, _, rfl, run_takeDeferred hK, ?_⟩⟩
    refine ⟨.bool true, ?_, by rw [HY.out], ?_⟩
    · simp [results, Try.f31, go_sem, hc5]
    · exact h4.trans (belowK_b (w := w) (Nat.le_refl _) _ D _ _ (by omega) hK rfl rfl)
end Go.Proofs.Ytkeeknlfommieaa.PF
