/- slices.Index, the reference's Place; ty.Field and the reference's Field; ty.Fun and the reference's Fun. -/
import Derived.Test.YtkeeknlfommieaaB8
import Derived.Test.YtkeeknlfommieaaPFx62
import Derived.Test.YtkeeknlfommieaaPFx76
namespace Go.Proofs.Ytkeeknlfommieaa.PF
open Go.RowKit Go.Shelf Go.Proofs.YtkeeknlfommieaaW.PrintWords Go.Proofs.YtkeeknlfommieaaW.PrintLast Go.Proofs.YtkeeknlfommieaaW.PrintMore

/-- Where a text stands in a list, from place i on; -1: nowhere. -/
noncomputable def placeS (s : ByteArray) : List ByteArray → Nat → Int
  | [], _ => -1
  | x :: l, i => if eqB x s = true then (i : Int) else placeS s l (i + 1)
theorem placeS_drop (s : ByteArray) (l : List ByteArray) (i : Nat) (h : i < l.length) : placeS s (l.drop i) i = if l[i] = s then (i : Int) else placeS s (l.drop (i + 1)) (i + 1) := by
  rw [drop_head l i h, placeS]
  by_cases e : l[i] = s
  · rw [if_pos (eqB_iff.2 e), if_pos e]
  · rw [if_neg (fun h => e (eqB_iff.1 h)), if_neg e]
theorem placeS_range (s : ByteArray) (l : List ByteArray) : ∀ i : Nat, placeS s l i = -1 ∨ ((i : Int) ≤ placeS s l i ∧ placeS s l i < (i : Int) + l.length) := by
  induction l with
  | nil => intro i; exact .inl rfl
  | cons x l ih =>
    intro i
    rw [placeS]
    split
    · exact .inr ⟨by omega, by simp; omega⟩
    · rcases ih (i + 1) with h | h
      · exact .inl h
      · exact .inr ⟨by omega, by simp; omega⟩
theorem index_l0 (l : List ByteArray) (s : ByteArray) (hl : l.length ≤ 9223372036854775807) : ∀ (d i k : Nat), i + d = l.length → d < k → slices_Index_string_string.l0 k l s (l.length : Int) i = some (placeS s (l.drop i) i) := by
  intro d
  induction d with
  | zero =>
    intro i k hi hk
    obtain ⟨k, rfl⟩ : ∃ q, k = q + 1 := ⟨k - 1, by omega⟩
    rw [slices_Index_string_string.l0, if_neg (by omega), List.drop_eq_nil_of_le (by omega)]
    rfl
  | succ d ih =>
    intro i k hi hk
    obtain ⟨k, rfl⟩ : ∃ q, k = q + 1 := ⟨k - 1, by omega⟩
    rw [slices_Index_string_string.l0, if_pos (by omega), if_pos (by omega), if_pos (by omega), rdS_getElem l i (by omega), placeS_drop s l i (by omega)]
    by_cases e : l[i] = s
    · rw [if_pos (by rw [e]), if_pos e]
    · rw [if_neg (fun h => e (bytes_ext h).symm), if_neg e, show wrap64 ((i : Int) + 1) = ((i + 1 : Nat) : Int) from by unfold wrap64; omega, ih (i + 1) k (by omega) (by omega)]
theorem place_l0 (l : List ByteArray) (s : ByteArray) (hl : l.length ≤ 9223372036854775807) : ∀ (d i k : Nat), i + d = l.length → d < k → limbeckref01_Place.l0 k l s i = some (placeS s (l.drop i) i) := by
  intro d
  induction d with
  | zero =>
    intro i k hi hk
    obtain ⟨k, rfl⟩ : ∃ q, k = q + 1 := ⟨k - 1, by omega⟩
    rw [limbeckref01_Place.l0, if_neg (by omega), List.drop_eq_nil_of_le (by omega)]
    rfl
  | succ d ih =>
    intro i k hi hk
    obtain ⟨k, rfl⟩ : ∃ q, k = q + 1 := ⟨k - 1, by omega⟩
    rw [limbeckref01_Place.l0, if_pos (by omega), if_pos (by omega), rdS_getElem l i (by omega), placeS_drop s l i (by omega)]
    by_cases e : l[i] = s
    · rw [if_pos (by rw [e]), if_pos e]
    · rw [if_neg (fun h => e (bytes_ext h)), if_neg e, show wrap64 ((i : Int) + 1) = ((i + 1 : Nat) : Int) from by unfold wrap64; omega, ih (i + 1) k (by omega) (by omega)]
theorem index_calls (A0 : Option Addr) (c0 : Nat) (l0 : List ByteArray) (s : ByteArray) (w : World) (hr0 : Kd.C Kd.string w A0 l0.length l0) (hc0 : l0.length ≤ c0) :
    Calls Try.prog 77 #[.slice A0 l0.length c0, .string s] w fun e w' => e = .returned (.int .i64 (placeS s l0 0)) ∧ Below w.heap.size w w' :=
  (slices_Index_string_string.calls (l0.length + 1) A0 c0 l0 s _ w hr0 hc0 (by unfold slices_Index_string_string.f; simpa using index_l0 l0 s hr0.2.1 l0.length 0 (l0.length + 1) (by omega) (by omega))).mono fun e w' ⟨he, hd⟩ => ⟨he, hd.below⟩
theorem place_calls (A0 : Option Addr) (c0 : Nat) (l0 : List ByteArray) (s : ByteArray) (w : World) (hr0 : Kd.C Kd.string w A0 l0.length l0) (hc0 : l0.length ≤ c0) :
    Calls Try.prog 57 #[.slice A0 l0.length c0, .string s] w fun e w' => e = .returned (.int .i64 (placeS s l0 0)) ∧ Below w.heap.size w w' :=
  (limbeckref01_Place.calls (l0.length + 1) A0 c0 l0 s _ w hr0 hc0 (by unfold limbeckref01_Place.f; simpa using place_l0 l0 s hr0.2.1 l0.length 0 (l0.length + 1) (by omega) (by omega))).mono fun e w' ⟨he, hd⟩ => ⟨he, hd.below⟩

/-- A field's type. -/
noncomputable def fieldT (t : S26) (s : ByteArray) : S26 × Bool :=
  if t.f0 = 8 ∧ 0 ≤ placeS s t.f3 0 ∧ placeS s t.f3 0 < t.f4.length then (t.f4.getD (placeS s t.f3 0).toNat z26, true) else (z26, false)
theorem put5 {W : World} {g : Nat} {t : TypeId} {a0 a1 a2 a3 a4 b0 b1 b2 b3 b4 : Value} (h : W.heap[g]? = some (.cells #[a0, a1, a2, a3, a4] t (0, 0))) :
    (((((W.setCell ⟨g, 0, none⟩ b0).setCell ⟨g, 1, none⟩ b1).setCell ⟨g, 2, none⟩ b2).setCell ⟨g, 3, none⟩ b3).setCell ⟨g, 4, none⟩ b4).heap[g]? = some (.cells #[b0, b1, b2, b3, b4] t (0, 0)) :=
  blk_put (blk_put (blk_put (blk_put (blk_put h 0 _ rfl) 1 _ rfl) 2 _ rfl) 3 _ rfl) 4 _ rfl
theorem below5 {n g : Nat} {w W : World} {b0 b1 b2 b3 b4 : Value} (h : Below n w W) (hg : n ≤ g) : Below n w (((((W.setCell ⟨g, 0, none⟩ b0).setCell ⟨g, 1, none⟩ b1).setCell ⟨g, 2, none⟩ b2).setCell ⟨g, 3, none⟩ b3).setCell ⟨g, 4, none⟩ b4) :=
  ((((h.setCell (p := ⟨g, 0, none⟩) hg _).setCell (p := ⟨g, 1, none⟩) hg _).setCell (p := ⟨g, 2, none⟩) hg _).setCell (p := ⟨g, 3, none⟩) hg _).setCell (p := ⟨g, 4, none⟩) hg _
theorem RT_z (w : World) : RT w (.agg #[.int .i64 0, .int .i64 0, .string ⟨#[]⟩, .slice none 0 0, .slice none 0 0]) z26 := ⟨none, 0, none, 0, rfl, Nat.le_refl _, Kd.C_nil _ _, Nat.le_refl _, Kd.C_nil _ _⟩
theorem info26s : (Try.prog.info? 26).map (·.size) = some 5 := by kernel_rfl

set_option maxRecDepth 100000 in
set_option maxHeartbeats 1000000 in
theorem field_calls (t : S26) (s : ByteArray) (w : World) (A3 : Option Addr) (c3 : Nat) (A4 : Option Addr) (c4 : Nat) (l3 : t.f3.length ≤ c3) (g3 : Kd.string.C w A3 t.f3.length t.f3) (g4 : k26.C w A4 t.f4.length t.f4) :
    Calls Try.prog 42 #[.agg #[.int .i64 t.f0, .int .i64 t.f1, .string t.f2, .slice A3 t.f3.length c3, .slice A4 t.f4.length c4], .string s] w fun e w' => (∃ v, e = .returned (.tuple #[v, .bool (fieldT t s).2]) ∧ RT w' v (fieldT t s).1) ∧ Below w.heap.size w w' := by
  obtain ⟨p, hp⟩ : ∃ p, placeS s t.f3 0 = p := ⟨_, rfl⟩
  have HP := Aside0.mk hp
  have HC := Aside0.mk (fun (W : World) (hb : Below w.heap.size w W) => index_calls A3 c3 t.f3 s W (Kd.C_below g3 hb) l3)
  have HG4 := Aside0.mk g4
  clear l3 g3 g4 hp
  have H2 := Aside0.mk (fun o o' => below_alloc (below_alloc (Below.refl w.heap.size w) o) o')
  by_cases h : t.f0 = 8 ∧ 0 ≤ p ∧ p < (t.f4.length : Int)
  · obtain ⟨h8, hp0, hp1⟩ := h
    have h8' : (t.f0 != 8) = false := by rw [bne_eq_false_iff_eq]; exact h8
    obtain ⟨j, rfl⟩ := Int.eq_ofNat_of_zero_le hp0
    have hj : j < t.f4.length := by omega
    obtain ⟨ad, B3, d3, B4, d4, e, h0, h1, h2, h3, h4, m3, f3, m4, f4⟩ := el26 HG4.out j hj
    cases e
    have HX := Aside0.mk (show fieldT t s = (t.f4[j], true) from by
      unfold fieldT; rw [HP.out, if_pos ⟨h8, hp0, hp1⟩, Int.toNat_natCast, List.getD_eq_getElem?_getD, List.getElem?_eq_getElem hj, Option.getD_some])
    have HRD := Aside0.mk (show ∀ W, Below w.heap.size w W → RT W (.agg #[.int .i64 t.f4[j].f0, .int .i64 t.f4[j].f1, .string t.f4[j].f2, .slice B3 t.f4[j].f3.length d3, .slice B4 t.f4[j].f4.length d4]) t.f4[j] from fun W hb => ⟨B3, d3, B4, d4, rfl, m3, Kd.C_below f3 hb, m4, Kd.C_below f4 hb⟩)
    have hblk : (ad.add (j * 5)).block < w.heap.size := World.block_lt_of_cell? w _ h0
    generalize t.f4[j] = y at *
    have HLT := Aside0.mk hj
    clear h8 m3 f3 m4 f4 hp0 hj
    have hp0 : (0 : Int) ≤ (j : Int) := by omega
    go_enter Try.func42, Try.ntmps42
    go_wp2_with (go_at_call 77; refine (HC.out _ (H2.out _ _)).mono ?_; rw [HP.out]; rintro e w1 ⟨rfl, hbw⟩; obtain ⟨hcell, hfroz⟩ := bcell hbw; have HW1 := Aside0.mk ((H2.out _ _).trans (hbw.mono (by simp; omega))); have hz1 : w.heap.size + 1 < w1.heap.size := (by have h_ := hbw.size; simp only [World.size_alloc] at h_; omega); have hz0 : w.heap.size < w1.heap.size := Nat.lt_of_succ_lt hz1; have HBO := Aside0.mk (show w1.heap[w.heap.size + 1]? = some (.cells #[.int .i64 0, .int .i64 0, .string ⟨#[]⟩, .slice none 0 0, .slice none 0 0] 26 (0, 0)) from (by have h_ := blk_below (blk_new _ _) hbw; simpa using h_)); clear hbw; have e0 := pw_cell_below HW1.out h0; have e1 := pw_cell_below HW1.out h1; have e2 := pw_cell_below HW1.out h2; have e3 := pw_cell_below HW1.out h3; have e4 := pw_cell_below HW1.out h4)
    refine bodyPost_ret (results_ct rfl _ _ (w.heap.size + 1) 26 _ (0, 0) _ rfl (put5 HBO.out) Try.underlying26 rfl (by kernel_rfl)) rfl ?_
    rw [HX.out]
    exact ⟨⟨_, rfl, HRD.out _ (below5 HW1.out (by omega))⟩, below5 HW1.out (by omega)⟩
  · have HX := Aside0.mk (show fieldT t s = (z26, false) from by unfold fieldT; rw [HP.out, if_neg h])
    by_cases h8 : t.f0 = 8
    · have h8' : (t.f0 != 8) = false := by rw [bne_eq_false_iff_eq]; exact h8
      have hpp : p < 0 ∨ (0 ≤ p ∧ (t.f4.length : Int) ≤ p) := by omega
      clear h h8
      rcases hpp with hp | ⟨hp, hp2⟩
      · go_enter Try.func42, Try.ntmps42
        go_wp2_with (go_at_call 77; refine (HC.out _ (H2.out _ _)).mono ?_; rw [HP.out]; rintro e w1 ⟨rfl, hbw⟩; obtain ⟨hcell, hfroz⟩ := bcell hbw; have HW1 := Aside0.mk ((H2.out _ _).trans (hbw.mono (by simp; omega))); have hz1 : w.heap.size + 1 < w1.heap.size := (by have h_ := hbw.size; simp only [World.size_alloc] at h_; omega); have hz0 : w.heap.size < w1.heap.size := Nat.lt_of_succ_lt hz1; have HBO := Aside0.mk (show w1.heap[w.heap.size + 1]? = some (.cells #[.int .i64 0, .int .i64 0, .string ⟨#[]⟩, .slice none 0 0, .slice none 0 0] 26 (0, 0)) from (by have h_ := blk_below (blk_new _ _) hbw; simpa using h_)); clear hbw)
        (refine bodyPost_ret (results_ct rfl _ _ (w.heap.size + 1) 26 _ (0, 0) _ rfl (put5 HBO.out) Try.underlying26 rfl (by kernel_rfl)) rfl ?_; rw [HX.out]; exact ⟨⟨_, rfl, RT_z _⟩, below5 HW1.out (by omega)⟩)
      · go_enter Try.func42, Try.ntmps42
        go_wp2_with (go_at_call 77; refine (HC.out _ (H2.out _ _)).mono ?_; rw [HP.out]; rintro e w1 ⟨rfl, hbw⟩; obtain ⟨hcell, hfroz⟩ := bcell hbw; have HW1 := Aside0.mk ((H2.out _ _).trans (hbw.mono (by simp; omega))); have hz1 : w.heap.size + 1 < w1.heap.size := (by have h_ := hbw.size; simp only [World.size_alloc] at h_; omega); have hz0 : w.heap.size < w1.heap.size := Nat.lt_of_succ_lt hz1; have HBO := Aside0.mk (show w1.heap[w.heap.size + 1]? = some (.cells #[.int .i64 0, .int .i64 0, .string ⟨#[]⟩, .slice none 0 0, .slice none 0 0] 26 (0, 0)) from (by have h_ := blk_below (blk_new _ _) hbw; simpa using h_)); clear hbw)
        (refine bodyPost_ret (results_ct rfl _ _ (w.heap.size + 1) 26 _ (0, 0) _ rfl (put5 HBO.out) Try.underlying26 rfl (by kernel_rfl)) rfl ?_; rw [HX.out]; exact ⟨⟨_, rfl, RT_z _⟩, below5 HW1.out (by omega)⟩)
    · have h8' : (t.f0 != 8) = true := by rw [bne_iff_ne]; exact h8
      clear h h8
      go_enter Try.func42, Try.ntmps42
      go_wp2_with (go_at_call 77; refine (HC.out _ (H2.out _ _)).mono ?_; rw [HP.out]; rintro e w1 ⟨rfl, hbw⟩; obtain ⟨hcell, hfroz⟩ := bcell hbw; have HW1 := Aside0.mk ((H2.out _ _).trans (hbw.mono (by simp; omega))); have hz1 : w.heap.size + 1 < w1.heap.size := (by have h_ := hbw.size; simp only [World.size_alloc] at h_; omega); have hz0 : w.heap.size < w1.heap.size := Nat.lt_of_succ_lt hz1; have HBO := Aside0.mk (show w1.heap[w.heap.size + 1]? = some (.cells #[.int .i64 0, .int .i64 0, .string ⟨#[]⟩, .slice none 0 0, .slice none 0 0] 26 (0, 0)) from (by have h_ := blk_below (blk_new _ _) hbw; simpa using h_)); clear hbw)
      (refine bodyPost_ret (results_ct rfl _ _ (w.heap.size + 1) 26 _ (0, 0) _ rfl (put5 HBO.out) Try.underlying26 rfl (by kernel_rfl)) rfl ?_; rw [HX.out]; exact ⟨⟨_, rfl, RT_z _⟩, below5 HW1.out (by omega)⟩)
set_option maxRecDepth 100000 in
set_option maxHeartbeats 1000000 in
theorem rfield_calls (t : S26) (s : ByteArray) (w : World) (A3 : Option Addr) (c3 : Nat) (A4 : Option Addr) (c4 : Nat) (l3 : t.f3.length ≤ c3) (g3 : Kd.string.C w A3 t.f3.length t.f3) (g4 : k26.C w A4 t.f4.length t.f4) :
    Calls Try.prog 43 #[.agg #[.int .i64 t.f0, .int .i64 t.f1, .string t.f2, .slice A3 t.f3.length c3, .slice A4 t.f4.length c4], .string s] w fun e w' => (∃ v, e = .returned (.tuple #[v, .bool (fieldT t s).2]) ∧ RT w' v (fieldT t s).1) ∧ Below w.heap.size w w' := by
  obtain ⟨p, hp⟩ : ∃ p, placeS s t.f3 0 = p := ⟨_, rfl⟩
  have HP := Aside0.mk hp
  have HC := Aside0.mk (fun (W : World) (hb : Below w.heap.size w W) => place_calls A3 c3 t.f3 s W (Kd.C_below g3 hb) l3)
  have HG4 := Aside0.mk g4
  clear l3 g3 g4 hp
  have H2 := Aside0.mk (fun o o' => below_alloc (below_alloc (Below.refl w.heap.size w) o) o')
  by_cases h : t.f0 = 8 ∧ 0 ≤ p ∧ p < (t.f4.length : Int)
  · obtain ⟨h8, hp0, hp1⟩ := h
    have h8' : (t.f0 != 8) = false := by rw [bne_eq_false_iff_eq]; exact h8
    obtain ⟨j, rfl⟩ := Int.eq_ofNat_of_zero_le hp0
    have hj : j < t.f4.length := by omega
    obtain ⟨ad, B3, d3, B4, d4, e, h0, h1, h2, h3, h4, m3, f3, m4, f4⟩ := el26 HG4.out j hj
    cases e
    have HX := Aside0.mk (show fieldT t s = (t.f4[j], true) from by
      unfold fieldT; rw [HP.out, if_pos ⟨h8, hp0, hp1⟩, Int.toNat_natCast, List.getD_eq_getElem?_getD, List.getElem?_eq_getElem hj, Option.getD_some])
    have HRD := Aside0.mk (show ∀ W, Below w.heap.size w W → RT W (.agg #[.int .i64 t.f4[j].f0, .int .i64 t.f4[j].f1, .string t.f4[j].f2, .slice B3 t.f4[j].f3.length d3, .slice B4 t.f4[j].f4.length d4]) t.f4[j] from fun W hb => ⟨B3, d3, B4, d4, rfl, m3, Kd.C_below f3 hb, m4, Kd.C_below f4 hb⟩)
    have hblk : (ad.add (j * 5)).block < w.heap.size := World.block_lt_of_cell? w _ h0
    generalize t.f4[j] = y at *
    have HLT := Aside0.mk hj
    clear h8 m3 f3 m4 f4 hp0 hj
    have hp0 : (0 : Int) ≤ (j : Int) := by omega
    go_enter Try.func43, Try.ntmps43
    go_wp2_with (go_at_call 57; refine (HC.out _ (H2.out _ _)).mono ?_; rw [HP.out]; rintro e w1 ⟨rfl, hbw⟩; obtain ⟨hcell, hfroz⟩ := bcell hbw; have HW1 := Aside0.mk ((H2.out _ _).trans (hbw.mono (by simp; omega))); have hz1 : w.heap.size + 1 < w1.heap.size := (by have h_ := hbw.size; simp only [World.size_alloc] at h_; omega); have hz0 : w.heap.size < w1.heap.size := Nat.lt_of_succ_lt hz1; have HBO := Aside0.mk (show w1.heap[w.heap.size + 1]? = some (.cells #[.int .i64 0, .int .i64 0, .string ⟨#[]⟩, .slice none 0 0, .slice none 0 0] 26 (0, 0)) from (by have h_ := blk_below (blk_new _ _) hbw; simpa using h_)); clear hbw; have e0 := pw_cell_below HW1.out h0; have e1 := pw_cell_below HW1.out h1; have e2 := pw_cell_below HW1.out h2; have e3 := pw_cell_below HW1.out h3; have e4 := pw_cell_below HW1.out h4)
    refine bodyPost_ret (results_ct rfl _ _ (w.heap.size + 1) 26 _ (0, 0) _ rfl (put5 HBO.out) Try.underlying26 rfl (by kernel_rfl)) rfl ?_
    rw [HX.out]
    exact ⟨⟨_, rfl, HRD.out _ (below5 HW1.out (by omega))⟩, below5 HW1.out (by omega)⟩
  · have HX := Aside0.mk (show fieldT t s = (z26, false) from by unfold fieldT; rw [HP.out, if_neg h])
    by_cases h8 : t.f0 = 8
    · have h8' : (t.f0 != 8) = false := by rw [bne_eq_false_iff_eq]; exact h8
      have hpp : p < 0 ∨ (0 ≤ p ∧ (t.f4.length : Int) ≤ p) := by omega
      clear h h8
      rcases hpp with hp | ⟨hp, hp2⟩
      · go_enter Try.func43, Try.ntmps43
        go_wp2_with (go_at_call 57; refine (HC.out _ (H2.out _ _)).mono ?_; rw [HP.out]; rintro e w1 ⟨rfl, hbw⟩; obtain ⟨hcell, hfroz⟩ := bcell hbw; have HW1 := Aside0.mk ((H2.out _ _).trans (hbw.mono (by simp; omega))); have hz1 : w.heap.size + 1 < w1.heap.size := (by have h_ := hbw.size; simp only [World.size_alloc] at h_; omega); have hz0 : w.heap.size < w1.heap.size := Nat.lt_of_succ_lt hz1; have HBO := Aside0.mk (show w1.heap[w.heap.size + 1]? = some (.cells #[.int .i64 0, .int .i64 0, .string ⟨#[]⟩, .slice none 0 0, .slice none 0 0] 26 (0, 0)) from (by have h_ := blk_below (blk_new _ _) hbw; simpa using h_)); clear hbw)
        (refine bodyPost_ret (results_ct rfl _ _ (w.heap.size + 1) 26 _ (0, 0) _ rfl (put5 HBO.out) Try.underlying26 rfl (by kernel_rfl)) rfl ?_; rw [HX.out]; exact ⟨⟨_, rfl, RT_z _⟩, below5 HW1.out (by omega)⟩)
      · go_enter Try.func43, Try.ntmps43
        go_wp2_with (go_at_call 57; refine (HC.out _ (H2.out _ _)).mono ?_; rw [HP.out]; rintro e w1 ⟨rfl, hbw⟩; obtain ⟨hcell, hfroz⟩ := bcell hbw; have HW1 := Aside0.mk ((H2.out _ _).trans (hbw.mono (by simp; omega))); have hz1 : w.heap.size + 1 < w1.heap.size := (by have h_ := hbw.size; simp only [World.size_alloc] at h_; omega); have hz0 : w.heap.size < w1.heap.size := Nat.lt_of_succ_lt hz1; have HBO := Aside0.mk (show w1.heap[w.heap.size + 1]? = some (.cells #[.int .i64 0, .int .i64 0, .string ⟨#[]⟩, .slice none 0 0, .slice none 0 0] 26 (0, 0)) from (by have h_ := blk_below (blk_new _ _) hbw; simpa using h_)); clear hbw)
        (refine bodyPost_ret (results_ct rfl _ _ (w.heap.size + 1) 26 _ (0, 0) _ rfl (put5 HBO.out) Try.underlying26 rfl (by kernel_rfl)) rfl ?_; rw [HX.out]; exact ⟨⟨_, rfl, RT_z _⟩, below5 HW1.out (by omega)⟩)
    · have h8' : (t.f0 != 8) = true := by rw [bne_iff_ne]; exact h8
      clear h h8
      go_enter Try.func43, Try.ntmps43
      go_wp2_with (go_at_call 57; refine (HC.out _ (H2.out _ _)).mono ?_; rw [HP.out]; rintro e w1 ⟨rfl, hbw⟩; obtain ⟨hcell, hfroz⟩ := bcell hbw; have HW1 := Aside0.mk ((H2.out _ _).trans (hbw.mono (by simp; omega))); have hz1 : w.heap.size + 1 < w1.heap.size := (by have h_ := hbw.size; simp only [World.size_alloc] at h_; omega); have hz0 : w.heap.size < w1.heap.size := Nat.lt_of_succ_lt hz1; have HBO := Aside0.mk (show w1.heap[w.heap.size + 1]? = some (.cells #[.int .i64 0, .int .i64 0, .string ⟨#[]⟩, .slice none 0 0, .slice none 0 0] 26 (0, 0)) from (by have h_ := blk_below (blk_new _ _) hbw; simpa using h_)); clear hbw)
      (refine bodyPost_ret (results_ct rfl _ _ (w.heap.size + 1) 26 _ (0, 0) _ rfl (put5 HBO.out) Try.underlying26 rfl (by kernel_rfl)) rfl ?_; rw [HX.out]; exact ⟨⟨_, rfl, RT_z _⟩, below5 HW1.out (by omega)⟩)

def funT (a b : S26) : S26 := ⟨7, 0, ⟨#[]⟩, [], [a, b]⟩
/-- Two types in a new row. -/
theorem c26_two {W : World} {g : Nat} {a b : S26} {A3 : Option Addr} {c3 : Nat} {A4 : Option Addr} {c4 : Nat} {B3 : Option Addr} {d3 : Nat} {B4 : Option Addr} {d4 : Nat}
    (h : W.heap[g]? = some (.cells #[.int .i64 a.f0, .int .i64 a.f1, .string a.f2, .slice A3 a.f3.length c3, .slice A4 a.f4.length c4, .int .i64 b.f0, .int .i64 b.f1, .string b.f2, .slice B3 b.f3.length d3, .slice B4 b.f4.length d4] 26 (0, 0)))
    (l3 : a.f3.length ≤ c3) (g3 : Kd.string.C W A3 a.f3.length a.f3) (l4 : a.f4.length ≤ c4) (g4 : k26.C W A4 a.f4.length a.f4) (m3 : b.f3.length ≤ d3) (f3 : Kd.string.C W B3 b.f3.length b.f3) (m4 : b.f4.length ≤ d4) (f4 : k26.C W B4 b.f4.length b.f4) :
    k26.C W (some ⟨g, 0, none⟩) [a, b].length [a, b] := by
  refine ⟨rfl, by simp, fun _ => ⟨_, rfl, fun j p hj => ?_⟩⟩
  have hadd : ∀ m, (⟨g, 0, none⟩ : Addr).add m = ⟨g, m, none⟩ := fun m => add_plain g m
  match j, hj with
  | 0, hj =>
    cases hj
    refine ⟨_, rfl, k26_mk W a l3 g3 l4 g4, fun i u hu => ?_⟩
    rw [hadd, blk_cell h]
    match i, hu with
    | 0, hu => exact hu
    | 1, hu => exact hu
    | 2, hu => exact hu
    | 3, hu => exact hu
    | 4, hu => exact hu
  | 1, hj =>
    cases hj
    refine ⟨_, rfl, k26_mk W b m3 f3 m4 f4, fun i u hu => ?_⟩
    rw [hadd, blk_cell h]
    match i, hu with
    | 0, hu => exact hu
    | 1, hu => exact hu
    | 2, hu => exact hu
    | 3, hu => exact hu
    | 4, hu => exact hu

set_option maxRecDepth 100000 in
set_option maxHeartbeats 1000000 in
theorem fun_calls (a b : S26) (w : World) (A3 : Option Addr) (c3 : Nat) (A4 : Option Addr) (c4 : Nat) (B3 : Option Addr) (d3 : Nat) (B4 : Option Addr) (d4 : Nat) (l3 : a.f3.length ≤ c3) (g3 : Kd.string.C w A3 a.f3.length a.f3) (l4 : a.f4.length ≤ c4) (g4 : k26.C w A4 a.f4.length a.f4) (m3 : b.f3.length ≤ d3) (f3 : Kd.string.C w B3 b.f3.length b.f3) (m4 : b.f4.length ≤ d4) (f4 : k26.C w B4 b.f4.length b.f4) :
    Calls Try.prog 44 #[.agg #[.int .i64 a.f0, .int .i64 a.f1, .string a.f2, .slice A3 a.f3.length c3, .slice A4 a.f4.length c4], .agg #[.int .i64 b.f0, .int .i64 b.f1, .string b.f2, .slice B3 b.f3.length d3, .slice B4 b.f4.length d4]] w fun e w' => (∃ v, e = .returned v ∧ RT w' v (funT a b)) ∧ Below w.heap.size w w' := by
  have HR := Aside0.mk (fun (W : World) (hb : Below w.heap.size w W) (g : Nat) h => c26_two (W := W) (g := g) h l3 (Kd.C_below g3 hb) l4 (Kd.C_below g4 hb) m3 (Kd.C_below f3 hb) m4 (Kd.C_below f4 hb))
  clear l3 g3 l4 g4 m3 f3 m4 f4
  go_enter Try.func44, Try.ntmps44
  go_wp2
  have hres := blk_alloc (blk_new ((w.alloc (.cells #[.int .i64 a.f0, .int .i64 a.f1, .string a.f2, .slice A3 a.f3.length c3, .slice A4 a.f4.length c4] 26)).alloc (.cells #[.int .i64 b.f0, .int .i64 b.f1, .string b.f2, .slice B3 b.f3.length d3, .slice B4 b.f4.length d4] 26)) (.cells #[.int .i64 7, .int .i64 0, .string ⟨#[]⟩, .slice none 0 0, .slice (some ⟨w.heap.size + 1 + 1 + 1, 0, none⟩) 2 2] 26)) (.cells #[.int .i64 a.f0, .int .i64 a.f1, .string a.f2, .slice A3 a.f3.length c3, .slice A4 a.f4.length c4, .int .i64 b.f0, .int .i64 b.f1, .string b.f2, .slice B3 b.f3.length d3, .slice B4 b.f4.length d4] 26)
  have harr := blk_new (((w.alloc (.cells #[.int .i64 a.f0, .int .i64 a.f1, .string a.f2, .slice A3 a.f3.length c3, .slice A4 a.f4.length c4] 26)).alloc (.cells #[.int .i64 b.f0, .int .i64 b.f1, .string b.f2, .slice B3 b.f3.length d3, .slice B4 b.f4.length d4] 26)).alloc (.cells #[.int .i64 7, .int .i64 0, .string ⟨#[]⟩, .slice none 0 0, .slice (some ⟨w.heap.size + 1 + 1 + 1, 0, none⟩) 2 2] 26)) (.cells #[.int .i64 a.f0, .int .i64 a.f1, .string a.f2, .slice A3 a.f3.length c3, .slice A4 a.f4.length c4, .int .i64 b.f0, .int .i64 b.f1, .string b.f2, .slice B3 b.f3.length d3, .slice B4 b.f4.length d4] 26)
  simp only [World.size_alloc] at hres harr
  have hB : Below w.heap.size w _ := below_alloc (below_alloc (below_alloc (below_alloc (Below.refl w.heap.size w) (.cells #[.int .i64 a.f0, .int .i64 a.f1, .string a.f2, .slice A3 a.f3.length c3, .slice A4 a.f4.length c4] 26)) (.cells #[.int .i64 b.f0, .int .i64 b.f1, .string b.f2, .slice B3 b.f3.length d3, .slice B4 b.f4.length d4] 26)) (.cells #[.int .i64 7, .int .i64 0, .string ⟨#[]⟩, .slice none 0 0, .slice (some ⟨w.heap.size + 1 + 1 + 1, 0, none⟩) 2 2] 26)) (.cells #[.int .i64 a.f0, .int .i64 a.f1, .string a.f2, .slice A3 a.f3.length c3, .slice A4 a.f4.length c4, .int .i64 b.f0, .int .i64 b.f1, .string b.f2, .slice B3 b.f3.length d3, .slice B4 b.f4.length d4] 26)
  refine bodyPost_ret (results_single rfl (.cell (w.heap.size + 1 + 1) 26 _ (0, 0) _ rfl hres Try.underlying26 rfl (by kernel_rfl) .nil)) rfl ?_
  exact ⟨⟨_, rfl, none, 0, _, 2, rfl, Nat.le_refl _, Kd.C_nil _ _, Nat.le_refl _, HR.out _ hB _ harr⟩, hB⟩
set_option maxRecDepth 100000 in
set_option maxHeartbeats 1000000 in
theorem rfun_calls (a b : S26) (w : World) (A3 : Option Addr) (c3 : Nat) (A4 : Option Addr) (c4 : Nat) (B3 : Option Addr) (d3 : Nat) (B4 : Option Addr) (d4 : Nat) (l3 : a.f3.length ≤ c3) (g3 : Kd.string.C w A3 a.f3.length a.f3) (l4 : a.f4.length ≤ c4) (g4 : k26.C w A4 a.f4.length a.f4) (m3 : b.f3.length ≤ d3) (f3 : Kd.string.C w B3 b.f3.length b.f3) (m4 : b.f4.length ≤ d4) (f4 : k26.C w B4 b.f4.length b.f4) :
    Calls Try.prog 45 #[.agg #[.int .i64 a.f0, .int .i64 a.f1, .string a.f2, .slice A3 a.f3.length c3, .slice A4 a.f4.length c4], .agg #[.int .i64 b.f0, .int .i64 b.f1, .string b.f2, .slice B3 b.f3.length d3, .slice B4 b.f4.length d4]] w fun e w' => (∃ v, e = .returned v ∧ RT w' v (funT a b)) ∧ Below w.heap.size w w' := by
  have HR := Aside0.mk (fun (W : World) (hb : Below w.heap.size w W) (g : Nat) h => c26_two (W := W) (g := g) h l3 (Kd.C_below g3 hb) l4 (Kd.C_below g4 hb) m3 (Kd.C_below f3 hb) m4 (Kd.C_below f4 hb))
  clear l3 g3 l4 g4 m3 f3 m4 f4
  go_enter Try.func45, Try.ntmps45
  go_wp2
  have hres := blk_alloc (blk_new ((w.alloc (.cells #[.int .i64 a.f0, .int .i64 a.f1, .string a.f2, .slice A3 a.f3.length c3, .slice A4 a.f4.length c4] 26)).alloc (.cells #[.int .i64 b.f0, .int .i64 b.f1, .string b.f2, .slice B3 b.f3.length d3, .slice B4 b.f4.length d4] 26)) (.cells #[.int .i64 7, .int .i64 0, .string ⟨#[]⟩, .slice none 0 0, .slice (some ⟨w.heap.size + 1 + 1 + 1, 0, none⟩) 2 2] 26)) (.cells #[.int .i64 a.f0, .int .i64 a.f1, .string a.f2, .slice A3 a.f3.length c3, .slice A4 a.f4.length c4, .int .i64 b.f0, .int .i64 b.f1, .string b.f2, .slice B3 b.f3.length d3, .slice B4 b.f4.length d4] 26)
  have harr := blk_new (((w.alloc (.cells #[.int .i64 a.f0, .int .i64 a.f1, .string a.f2, .slice A3 a.f3.length c3, .slice A4 a.f4.length c4] 26)).alloc (.cells #[.int .i64 b.f0, .int .i64 b.f1, .string b.f2, .slice B3 b.f3.length d3, .slice B4 b.f4.length d4] 26)).alloc (.cells #[.int .i64 7, .int .i64 0, .string ⟨#[]⟩, .slice none 0 0, .slice (some ⟨w.heap.size + 1 + 1 + 1, 0, none⟩) 2 2] 26)) (.cells #[.int .i64 a.f0, .int .i64 a.f1, .string a.f2, .slice A3 a.f3.length c3, .slice A4 a.f4.length c4, .int .i64 b.f0, .int .i64 b.f1, .string b.f2, .slice B3 b.f3.length d3, .slice B4 b.f4.length d4] 26)
  simp only [World.size_alloc] at hres harr
  have hB : Below w.heap.size w _ := below_alloc (below_alloc (below_alloc (below_alloc (Below.refl w.heap.size w) (.cells #[.int .i64 a.f0, .int .i64 a.f1, .string a.f2, .slice A3 a.f3.length c3, .slice A4 a.f4.length c4] 26)) (.cells #[.int .i64 b.f0, .int .i64 b.f1, .string b.f2, .slice B3 b.f3.length d3, .slice B4 b.f4.length d4] 26)) (.cells #[.int .i64 7, .int .i64 0, .string ⟨#[]⟩, .slice none 0 0, .slice (some ⟨w.heap.size + 1 + 1 + 1, 0, none⟩) 2 2] 26)) (.cells #[.int .i64 a.f0, .int .i64 a.f1, .string a.f2, .slice A3 a.f3.length c3, .slice A4 a.f4.length c4, .int .i64 b.f0, .int .i64 b.f1, .string b.f2, .slice B3 b.f3.length d3, .slice B4 b.f4.length d4] 26)
  refine bodyPost_ret (results_single rfl (.cell (w.heap.size + 1 + 1) 26 _ (0, 0) _ rfl hres Try.underlying26 rfl (by kernel_rfl) .nil)) rfl ?_
  exact ⟨⟨_, rfl, none, 0, _, 2, rfl, Nat.le_refl _, Kd.C_nil _ _, Nat.le_refl _, HR.out _ hB _ harr⟩, hB⟩
end Go.Proofs.Ytkeeknlfommieaa.PF
