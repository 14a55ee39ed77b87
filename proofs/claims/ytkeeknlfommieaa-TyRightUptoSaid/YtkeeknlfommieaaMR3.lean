/- The reference's Right: it tells which types are right. · The statements' own word Much: it returns, at every type. · ty.Rec: the walk. · A reading that no cell of a fresh, empty type lies in: it is kept where that one is written. -/
import Derived.Test.YtkeeknlfommieaaMR2
import Derived.Test.YtkeeknlfommieaaMR0
import Derived.Test.YtkeeknlfommieaaMR1
namespace Go.Proofs.Ytkeeknlfommieaa.PF
open Go.RowKit Go.Proofs.YtkeeknlfommieaaW.PrintWords Go.Proofs.YtkeeknlfommieaaW.PrintLast Go.Proofs.YtkeeknlfommieaaW.PrintMore

theorem cells5' {W : World} {g : Nat} {a0 a1 a2 a3 a4 : Value} (h : W.heap[g]? = some (.cells #[a0, a1, a2, a3, a4] 26 (0, 0))) : W.cell? ⟨g, 0, none⟩ = some a0 ∧ W.cell? ⟨g, 1, none⟩ = some a1 ∧ W.cell? ⟨g, 2, none⟩ = some a2 ∧ W.cell? ⟨g, 3, none⟩ = some a3 ∧ W.cell? ⟨g, 4, none⟩ = some a4 :=
  ⟨blk_cell h 0, blk_cell h 1, blk_cell h 2, blk_cell h 3, blk_cell h 4⟩
theorem rightT_bad {k n : Int} {nm : ByteArray} {ls : List ByteArray} {ar : List S26} (h : bareT k n nm ls = false) : rightT ⟨k, n, nm, ls, ar⟩ = false := by
  rw [rightT_eq]; simp only [h, Bool.false_and]
theorem rightT_arg {k n : Int} {nm : ByteArray} {ls : List ByteArray} {ar : List S26} {x : S26} (hx : x ∈ ar) (h : rightT x = false) : rightT ⟨k, n, nm, ls, ar⟩ = false := by
  rw [rightT_eq]
  have : (ar.all rightT) = false := List.all_eq_false.2 ⟨x, hx, by simp [h]⟩
  simp only [this, Bool.and_false, Bool.false_and]
theorem rightT_good {k n : Int} {nm : ByteArray} {ls : List ByteArray} {ar : List S26} (h : bareT k n nm ls = true) (ha : ar.all rightT = true) : rightT ⟨k, n, nm, ls, ar⟩ = kindT k n nm ls ar.length := by
  rw [rightT_eq]; simp only [h, ha, Bool.true_and]
set_option maxRecDepth 100000 in
set_option maxHeartbeats 4000000 in
theorem rright_calls (t : S26) : ∀ (w : World) (A3 : Option Addr) (c3 : Nat) (A4 : Option Addr) (c4 : Nat) (_ : t.f3.length ≤ c3) (_ : Kd.string.C w A3 t.f3.length t.f3) (_ : t.f4.length ≤ c4) (_ : k26.C w A4 t.f4.length t.f4),
    Calls Try.prog 18 #[.agg #[.int .i64 t.f0, .int .i64 t.f1, .string t.f2, .slice A3 t.f3.length c3, .slice A4 t.f4.length c4]] w fun e w' => e = .returned (.bool (rightT t)) ∧ Below w.heap.size w w' := by
  induction t using S26.ind with
  | h k n nm ls ar ih =>
  intro w A3 c3 A4 c4 l3 g3 l4 g4
  dsimp only at l3 g3 l4 g4 ⊢
  have HG3 := Aside0.mk g3
  have HG4 := Aside0.mk g4
  have HIH := Aside0.mk ih
  have hl3 := g3.2.1
  have hl4 := g4.2.1
  clear ih l3 g3 l4 g4
  go_enter Try.func18, Try.ntmps18
  go_upto_block 0 with (fail)
  go_cut [3] (fun v3 wc => Aside0 (ar.all rightT = true) ∧ Aside0 (Below (w.heap.size + 1) (w.alloc (.cells #[.int .i64 k, .int .i64 n, .string nm, .slice A3 ls.length c3, .slice A4 ar.length c4] 26)) wc))
  case first =>
    go_wp2_with fail
    go_loopg [3] ar.length (fun gk i wr => ∃ (q : Nat), i = .int .i64 q ∧ Aside0 (gk + q = ar.length) ∧ Aside0 (∀ x ∈ ar.take q, rightT x = true) ∧ Aside0 (Below (w.heap.size + 1) (w.alloc (.cells #[.int .i64 k, .int .i64 n, .string nm, .slice A3 ls.length c3, .slice A4 ar.length c4] 26)) wr))
    case atStart => exact ⟨0, rfl, ⟨rfl⟩, ⟨fun x hx => by simp at hx⟩, ⟨Below.refl _ _⟩⟩
    case round =>
      obtain ⟨q, rfl, HK, HQ, HB⟩ := hrel
      have hz : w.heap.size < wr.heap.size := by have h_ := HB.out.size; simp only [World.size_alloc] at h_; omega
      have HBW := Aside0.mk ((below_alloc (Below.refl w.heap.size w) (.cells #[.int .i64 k, .int .i64 n, .string nm, .slice A3 ls.length c3, .slice A4 ar.length c4] 26)).trans (HB.out.mono (by omega)))
      obtain ⟨k0, k1, k2, k3, k4⟩ := cells5' ((HB.out.block _ (Nat.lt_succ_self _)).trans (blk_new w (.cells #[.int .i64 k, .int .i64 n, .string nm, .slice A3 ls.length c3, .slice A4 ar.length c4] 26)))
      by_cases hlt : q < ar.length
      · have hltZ : ((q : Int) < (ar.length : Int)) := by omega
        obtain ⟨ad, B3, d3, B4, d4, e, h0, h1, h2, h3, h4, l3, g3, l4, g4⟩ := el26 (Kd.C_below HG4.out HBW.out) q hlt
        cases e
        have HC := Aside0.mk (HIH.out ar[q] (List.getElem_mem hlt) wr B3 d3 B4 d4 l3 g3 l4 g4)
        have HT := Aside0.mk (show ar.take (q + 1) = ar.take q ++ [ar[q]] from List.take_succ_eq_append_getElem hlt)
        have HMX := Aside0.mk (List.getElem_mem hlt)
        have HLT := Aside0.mk hlt
        generalize ar[q] = x at *
        clear l3 g3 l4 g4 hlt
        obtain ⟨b, hb⟩ : ∃ b, rightT x = b := ⟨_, rfl⟩
        have HBV := Aside0.mk hb
        clear hb
        cases b with
        | true =>
          go_wp2_with (go_at_call 18; with_reducible refine HC.out.mono ?_; rw [HBV.out]; rintro e w1 ⟨rfl, hb1⟩)
          go_roundg (gk - 1)
          case measure => have := HK.out; have := HLT.out; omega
          case rel => exact ⟨q + 1, by go_num, ⟨by have := HK.out; have := HLT.out; omega⟩, ⟨fun y hy => by
            rw [HT.out] at hy
            rcases List.mem_append.1 hy with h | h
            · exact HQ.out y h
            · rw [List.mem_singleton.1 h]; exact HBV.out⟩, ⟨HB.out.trans (hb1.mono (by omega))⟩⟩
        | false =>
          have HX := Aside0.mk (rightT_arg (k := k) (n := n) (nm := nm) (ls := ls) HMX.out HBV.out)
          go_wp2_with (go_at_call 18; with_reducible refine HC.out.mono ?_; rw [HBV.out]; rintro e w1 ⟨rfl, hb1⟩)
          go_ret
          exact ⟨ret_bool HX.out.symm, HBW.out.trans (hb1.mono (by omega))⟩
      · have hltz : ¬ (q : Int) < (ar.length : Int) := by omega
        have HX := Aside0.mk (show ar.all rightT = true from by
          rw [List.all_eq_true]
          intro x hx
          have := HQ.out x
          rw [List.take_of_length_le (by omega)] at this
          exact this hx)
        clear hlt
        go_wp2
        go_meet
        case rel => exact ⟨HX, HB⟩
  case rest =>
    have hrel : Aside0 (ar.all rightT = true) ∧ Aside0 (Below (w.heap.size + 1) (w.alloc (.cells #[.int .i64 k, .int .i64 n, .string nm, .slice A3 ls.length c3, .slice A4 ar.length c4] 26)) wc) := by assumption
    obtain ⟨HALL, HB⟩ := hrel
    have hz : w.heap.size < wc.heap.size := by have h_ := HB.out.size; simp only [World.size_alloc] at h_; omega
    have HBW := Aside0.mk ((below_alloc (Below.refl w.heap.size w) (.cells #[.int .i64 k, .int .i64 n, .string nm, .slice A3 ls.length c3, .slice A4 ar.length c4] 26)).trans (HB.out.mono (by omega)))
    obtain ⟨k0, k1, k2, k3, k4⟩ := cells5' ((HB.out.block _ (Nat.lt_succ_self _)).trans (blk_new w (.cells #[.int .i64 k, .int .i64 n, .string nm, .slice A3 ls.length c3, .slice A4 ar.length c4] 26)))
    have HV := Aside0.mk (rvar_calls nm wc)
    have HR := Aside0.mk (rrising_calls A3 c3 ls wc (Kd.C_below HG3.out HBW.out))
    by_cases h6 : k = 6
    · subst h6
      by_cases hn0 : n = 0
      · have hn1 : (n != 0) = false := bne_eq_false_iff_eq.2 hn0
        have HN0 := Aside0.mk hn0
        clear hn0
        by_cases hls : ls.length = 0
        · have hl1 : ¬ (0 < ls.length) := by omega
          have hl1z : ¬ ((ls.length : Int) > 0) := by omega
          have HLS := Aside0.mk hls
          clear hls
          have HX := Aside0.mk (rightT_good (show bareT 6 n nm ls = true from by unfold bareT; simp [HN0.out, HLS.out]) HALL.out)
          have HY := Aside0.mk (show kindT 6 n nm ls ar.length = (decide (ar.length = 0) && varN nm.data.toList) from by unfold kindT; simp)
          obtain ⟨b, hb⟩ : ∃ b, varN nm.data.toList = b := ⟨_, rfl⟩
          have HVB := Aside0.mk hb
          clear hb
          rw [HVB.out] at HV HY
          cases b with
          | true =>
            have HE := Aside0.mk (show ((ar.length : Int) == 0) = decide (ar.length = 0) from by rw [Bool.eq_iff_iff]; simp)
            go_wp2_with (go_at_call 55; with_reducible refine HV.out.mono ?_; rintro e w1 ⟨rfl, hb1⟩; obtain ⟨hcell, hfroz⟩ := bcell hb1; have HB1 := Aside0.mk hb1; have hz1 := hb1.size; clear hb1)
            go_ret
            exact ⟨ret_bool (by rw [HX.out, HY.out, HE.out, Bool.and_true]), HBW.out.trans (HB1.out.mono (by omega))⟩
          | false =>
            go_wp2_with (go_at_call 55; with_reducible refine HV.out.mono ?_; rintro e w1 ⟨rfl, hb1⟩; obtain ⟨hcell, hfroz⟩ := bcell hb1; have HB1 := Aside0.mk hb1; have hz1 := hb1.size; clear hb1)
            go_ret
            exact ⟨ret_bool (by rw [HX.out, HY.out, Bool.and_false]), HBW.out.trans (HB1.out.mono (by omega))⟩
        · have hl1 : 0 < ls.length := by omega
          have hl1z : (ls.length : Int) > 0 := by omega
          have HLS := Aside0.mk hls
          clear hls
          have HX := Aside0.mk (rightT_bad (ar := ar) (show bareT 6 n nm ls = false from by unfold bareT; simp [HLS.out]))
          go_wp2
          go_ret
          exact ⟨ret_bool (HX.out.symm), HBW.out⟩
      · have hn1 : (n != 0) = true := bne_iff_ne.2 hn0
        have HN0 := Aside0.mk hn0
        clear hn0
        have HX := Aside0.mk (rightT_bad (ar := ar) (show bareT 6 n nm ls = false from by unfold bareT; simp [HN0.out]))
        go_wp2
        go_ret
        exact ⟨ret_bool (HX.out.symm), HBW.out⟩
    have n6 : (k != 6) = true := bne_iff_ne.2 h6
    have n6e : (k == 6) = false := beq_eq_false_iff_ne.2 h6
    by_cases h9 : k = 9
    · subst h9
      clear n6 n6e h6
      by_cases hnm : nm.toList = []
      · have hnm2 : nm.toList.isEmpty = true := by rw [hnm]; rfl
        have HNM := Aside0.mk (show nm.data.toList.isEmpty = true from by rw [← ByteArray.toList_eq]; exact hnm2)
        by_cases hls : ls.length = 0
        · have hl1 : ¬ (0 < ls.length) := by omega
          have hl1z : ¬ ((ls.length : Int) > 0) := by omega
          have HLS := Aside0.mk hls
          clear hls
          have HX := Aside0.mk (rightT_good (show bareT 9 n nm ls = true from by unfold bareT; rw [HNM.out]; simp [HNM.out, HLS.out]) HALL.out)
          have HY := Aside0.mk (show kindT 9 n nm ls ar.length = (decide (ar.length = 0) && decide (0 ≤ n ∧ n ≤ 1073741824)) from by unfold kindT; simp)
          by_cases hn0 : 0 ≤ n
          · by_cases hn1 : n ≤ 1073741824
            · have HE := Aside0.mk (show ((ar.length : Int) == 0) = decide (ar.length = 0) from by rw [Bool.eq_iff_iff]; simp)
              have HD := Aside0.mk (show decide (0 ≤ n ∧ n ≤ 1073741824) = true from decide_eq_true ⟨hn0, hn1⟩)
              go_wp2
              go_ret
              exact ⟨ret_bool (by rw [HX.out, HY.out, HE.out, HD.out, Bool.and_true]), HBW.out⟩
            · have HD := Aside0.mk (show decide (0 ≤ n ∧ n ≤ 1073741824) = false from decide_eq_false (fun h => hn1 h.2))
              go_wp2
              go_ret
              exact ⟨ret_bool (by rw [HX.out, HY.out, HD.out, Bool.and_false]), HBW.out⟩
          · have HD := Aside0.mk (show decide (0 ≤ n ∧ n ≤ 1073741824) = false from decide_eq_false (fun h => hn0 h.1))
            go_wp2
            go_ret
            exact ⟨ret_bool (by rw [HX.out, HY.out, HD.out, Bool.and_false]), HBW.out⟩
        · have hl1 : 0 < ls.length := by omega
          have hl1z : (ls.length : Int) > 0 := by omega
          have HLS := Aside0.mk hls
          clear hls
          have HX := Aside0.mk (rightT_bad (ar := ar) (show bareT 9 n nm ls = false from by unfold bareT; rw [HNM.out]; simp [HLS.out]))
          go_wp2
          go_ret
          exact ⟨ret_bool (HX.out.symm), HBW.out⟩
      · have hnm2 : nm.toList.isEmpty = false := by cases h : nm.toList with | nil => exact absurd h hnm | cons a l => rfl
        have HNM := Aside0.mk (show nm.data.toList.isEmpty = false from by rw [← ByteArray.toList_eq]; exact hnm2)
        have hnm3 : (nm.toList != []) = true := by rw [bne_iff_ne]; exact hnm
        have HX := Aside0.mk (rightT_bad (ar := ar) (show bareT 9 n nm ls = false from by unfold bareT; rw [HNM.out]; simp [HNM.out]))
        go_wp2
        go_ret
        exact ⟨ret_bool (HX.out.symm), HBW.out⟩
    have n9 : (k != 9) = true := bne_iff_ne.2 h9
    have n9e : (k == 9) = false := beq_eq_false_iff_ne.2 h9
    by_cases h8 : k = 8
    · subst h8
      clear n6 n6e h6 n9 n9e h9
      by_cases hnm : nm.toList = []
      · have hnm2 : nm.toList.isEmpty = true := by rw [hnm]; rfl
        have HNM := Aside0.mk (show nm.data.toList.isEmpty = true from by rw [← ByteArray.toList_eq]; exact hnm2)
        by_cases hn0 : n = 0
        · have hn1 : (n != 0) = false := bne_eq_false_iff_eq.2 hn0
          have HN0 := Aside0.mk hn0
          clear hn0
          have HX := Aside0.mk (rightT_good (show bareT 8 n nm ls = true from by unfold bareT; rw [HNM.out]; simp [HNM.out, HN0.out]) HALL.out)
          have HY := Aside0.mk (show kindT 8 n nm ls ar.length = (decide (ar.length = ls.length) && risingN (bl ls)) from by unfold kindT; simp)
          obtain ⟨b, hb⟩ : ∃ b, risingN (bl ls) = b := ⟨_, rfl⟩
          have HVB := Aside0.mk hb
          clear hb
          rw [HVB.out] at HR HY
          cases b with
          | true =>
            have HE := Aside0.mk (show ((ls.length : Int) == (ar.length : Int)) = decide (ar.length = ls.length) from by rw [Bool.eq_iff_iff]; simp; omega)
            go_wp2_with (go_at_call 56; with_reducible refine HR.out.mono ?_; rintro e w1 ⟨rfl, hb1⟩; obtain ⟨hcell, hfroz⟩ := bcell hb1; have HB1 := Aside0.mk hb1; have hz1 := hb1.size; clear hb1)
            go_ret
            exact ⟨ret_bool (by rw [HX.out, HY.out, HE.out, Bool.and_true]), HBW.out.trans (HB1.out.mono (by omega))⟩
          | false =>
            go_wp2_with (go_at_call 56; with_reducible refine HR.out.mono ?_; rintro e w1 ⟨rfl, hb1⟩; obtain ⟨hcell, hfroz⟩ := bcell hb1; have HB1 := Aside0.mk hb1; have hz1 := hb1.size; clear hb1)
            go_ret
            exact ⟨ret_bool (by rw [HX.out, HY.out, Bool.and_false]), HBW.out.trans (HB1.out.mono (by omega))⟩
        · have hn1 : (n != 0) = true := bne_iff_ne.2 hn0
          have HN0 := Aside0.mk hn0
          clear hn0
          have HX := Aside0.mk (rightT_bad (ar := ar) (show bareT 8 n nm ls = false from by unfold bareT; rw [HNM.out]; simp [HN0.out]))
          go_wp2
          go_ret
          exact ⟨ret_bool (HX.out.symm), HBW.out⟩
      · have hnm2 : nm.toList.isEmpty = false := by cases h : nm.toList with | nil => exact absurd h hnm | cons a l => rfl
        have HNM := Aside0.mk (show nm.data.toList.isEmpty = false from by rw [← ByteArray.toList_eq]; exact hnm2)
        have hnm3 : (nm.toList != []) = true := by rw [bne_iff_ne]; exact hnm
        have HX := Aside0.mk (rightT_bad (ar := ar) (show bareT 8 n nm ls = false from by unfold bareT; rw [HNM.out]; simp [HNM.out]))
        go_wp2
        go_ret
        exact ⟨ret_bool (HX.out.symm), HBW.out⟩
    have n8 : (k != 8) = true := bne_iff_ne.2 h8
    have n8e : (k == 8) = false := beq_eq_false_iff_ne.2 h8
    have H689 := Aside0.mk (And.intro h6 (And.intro h8 h9))
    by_cases h7 : k = 7
    · subst h7
      clear n6 n6e h6 n9 n9e h9 n8 n8e h8
      by_cases hnm : nm.toList = []
      · have hnm2 : nm.toList.isEmpty = true := by rw [hnm]; rfl
        have HNM := Aside0.mk (show nm.data.toList.isEmpty = true from by rw [← ByteArray.toList_eq]; exact hnm2)
        by_cases hn0 : n = 0
        · have hn1 : (n != 0) = false := bne_eq_false_iff_eq.2 hn0
          have HN0 := Aside0.mk hn0
          clear hn0
          by_cases hls : ls.length = 0
          · have hl1 : ¬ (0 < ls.length) := by omega
            have hl1z : ¬ ((ls.length : Int) > 0) := by omega
            have HLS := Aside0.mk hls
            clear hls
            have HX := Aside0.mk (rightT_good (show bareT 7 n nm ls = true from by unfold bareT; rw [HNM.out]; simp [HNM.out, HN0.out, HLS.out]) HALL.out)
            have HY := Aside0.mk (show kindT 7 n nm ls ar.length = decide (ar.length = 2) from by unfold kindT; simp)
            have HE := Aside0.mk (show ((ar.length : Int) == 2) = decide (ar.length = 2) from by rw [Bool.eq_iff_iff]; simp; omega)
            go_wp2
            go_ret
            exact ⟨ret_bool (by rw [HX.out, HY.out, HE.out]), HBW.out⟩
          · have hl1 : 0 < ls.length := by omega
            have hl1z : (ls.length : Int) > 0 := by omega
            have HLS := Aside0.mk hls
            clear hls
            have HX := Aside0.mk (rightT_bad (ar := ar) (show bareT 7 n nm ls = false from by unfold bareT; rw [HNM.out]; simp [HLS.out]))
            go_wp2
            go_ret
            exact ⟨ret_bool (HX.out.symm), HBW.out⟩
        · have hn1 : (n != 0) = true := bne_iff_ne.2 hn0
          have HN0 := Aside0.mk hn0
          clear hn0
          have HX := Aside0.mk (rightT_bad (ar := ar) (show bareT 7 n nm ls = false from by unfold bareT; rw [HNM.out]; simp [HN0.out]))
          go_wp2
          go_ret
          exact ⟨ret_bool (HX.out.symm), HBW.out⟩
      · have hnm2 : nm.toList.isEmpty = false := by cases h : nm.toList with | nil => exact absurd h hnm | cons a l => rfl
        have HNM := Aside0.mk (show nm.data.toList.isEmpty = false from by rw [← ByteArray.toList_eq]; exact hnm2)
        have hnm3 : (nm.toList != []) = true := by rw [bne_iff_ne]; exact hnm
        have HX := Aside0.mk (rightT_bad (ar := ar) (show bareT 7 n nm ls = false from by unfold bareT; rw [HNM.out]; simp [HNM.out]))
        go_wp2
        go_ret
        exact ⟨ret_bool (HX.out.symm), HBW.out⟩
    have n7e : (k == 7) = false := beq_eq_false_iff_ne.2 h7
    have H7 := Aside0.mk h7
    clear h6 h8 h9 h7
    by_cases h1 : 1 ≤ k
    · by_cases h5 : k ≤ 5
      · by_cases hnm : nm.toList = []
        · have hnm2 : nm.toList.isEmpty = true := by rw [hnm]; rfl
          have HNM := Aside0.mk (show nm.data.toList.isEmpty = true from by rw [← ByteArray.toList_eq]; exact hnm2)
          by_cases hn0 : n = 0
          · have hn1 : (n != 0) = false := bne_eq_false_iff_eq.2 hn0
            have HN0 := Aside0.mk hn0
            clear hn0
            by_cases hls : ls.length = 0
            · have hl1 : ¬ (0 < ls.length) := by omega
              have hl1z : ¬ ((ls.length : Int) > 0) := by omega
              have HLS := Aside0.mk hls
              clear hls
              have HX := Aside0.mk (rightT_good (show bareT k n nm ls = true from by unfold bareT; rw [HNM.out]; simp [HNM.out, HN0.out, HLS.out]) HALL.out)
              have HY := Aside0.mk (show kindT k n nm ls ar.length = decide (ar.length = 0) from by unfold kindT; rw [if_pos ⟨h1, h5⟩])
              have HE := Aside0.mk (show ((ar.length : Int) == 0) = decide (ar.length = 0) from by rw [Bool.eq_iff_iff]; simp)
              go_wp2
              go_ret
              exact ⟨ret_bool (by rw [HX.out, HY.out, HE.out]), HBW.out⟩
            · have hl1 : 0 < ls.length := by omega
              have hl1z : (ls.length : Int) > 0 := by omega
              have HLS := Aside0.mk hls
              clear hls
              have HX := Aside0.mk (rightT_bad (ar := ar) (show bareT k n nm ls = false from by unfold bareT; rw [HNM.out]; simp [HLS.out, H689.out.1, H689.out.2.1, H689.out.2.2]))
              go_wp2
              go_ret
              exact ⟨ret_bool (HX.out.symm), HBW.out⟩
          · have hn1 : (n != 0) = true := bne_iff_ne.2 hn0
            have HN0 := Aside0.mk hn0
            clear hn0
            have HX := Aside0.mk (rightT_bad (ar := ar) (show bareT k n nm ls = false from by unfold bareT; rw [HNM.out]; simp [HN0.out, H689.out.1, H689.out.2.1, H689.out.2.2]))
            go_wp2
            go_ret
            exact ⟨ret_bool (HX.out.symm), HBW.out⟩
        · have hnm2 : nm.toList.isEmpty = false := by cases h : nm.toList with | nil => exact absurd h hnm | cons a l => rfl
          have HNM := Aside0.mk (show nm.data.toList.isEmpty = false from by rw [← ByteArray.toList_eq]; exact hnm2)
          have hnm3 : (nm.toList != []) = true := by rw [bne_iff_ne]; exact hnm
          have HX := Aside0.mk (rightT_bad (ar := ar) (show bareT k n nm ls = false from by unfold bareT; rw [HNM.out]; simp [HNM.out, H689.out.1, H689.out.2.1, H689.out.2.2]))
          go_wp2
          go_ret
          exact ⟨ret_bool (HX.out.symm), HBW.out⟩
      · by_cases hnm : nm.toList = []
        · have hnm2 : nm.toList.isEmpty = true := by rw [hnm]; rfl
          have HNM := Aside0.mk (show nm.data.toList.isEmpty = true from by rw [← ByteArray.toList_eq]; exact hnm2)
          by_cases hn0 : n = 0
          · have hn1 : (n != 0) = false := bne_eq_false_iff_eq.2 hn0
            have HN0 := Aside0.mk hn0
            clear hn0
            by_cases hls : ls.length = 0
            · have hl1 : ¬ (0 < ls.length) := by omega
              have hl1z : ¬ ((ls.length : Int) > 0) := by omega
              have HLS := Aside0.mk hls
              clear hls
              have HX := Aside0.mk (rightT_good (show bareT k n nm ls = true from by unfold bareT; rw [HNM.out]; simp [HNM.out, HN0.out, HLS.out]) HALL.out)
              have HY := Aside0.mk (show kindT k n nm ls ar.length = false from by unfold kindT; rw [if_neg (by omega), if_neg H689.out.1, if_neg H689.out.2.2, if_neg H7.out, if_neg H689.out.2.1])
              go_wp2
              go_ret
              exact ⟨ret_bool (by rw [HX.out, HY.out]), HBW.out⟩
            · have hl1 : 0 < ls.length := by omega
              have hl1z : (ls.length : Int) > 0 := by omega
              have HLS := Aside0.mk hls
              clear hls
              have HX := Aside0.mk (rightT_bad (ar := ar) (show bareT k n nm ls = false from by unfold bareT; rw [HNM.out]; simp [HLS.out, H689.out.1, H689.out.2.1, H689.out.2.2]))
              go_wp2
              go_ret
              exact ⟨ret_bool (HX.out.symm), HBW.out⟩
          · have hn1 : (n != 0) = true := bne_iff_ne.2 hn0
            have HN0 := Aside0.mk hn0
            clear hn0
            have HX := Aside0.mk (rightT_bad (ar := ar) (show bareT k n nm ls = false from by unfold bareT; rw [HNM.out]; simp [HN0.out, H689.out.1, H689.out.2.1, H689.out.2.2]))
            go_wp2
            go_ret
            exact ⟨ret_bool (HX.out.symm), HBW.out⟩
        · have hnm2 : nm.toList.isEmpty = false := by cases h : nm.toList with | nil => exact absurd h hnm | cons a l => rfl
          have HNM := Aside0.mk (show nm.data.toList.isEmpty = false from by rw [← ByteArray.toList_eq]; exact hnm2)
          have hnm3 : (nm.toList != []) = true := by rw [bne_iff_ne]; exact hnm
          have HX := Aside0.mk (rightT_bad (ar := ar) (show bareT k n nm ls = false from by unfold bareT; rw [HNM.out]; simp [HNM.out, H689.out.1, H689.out.2.1, H689.out.2.2]))
          go_wp2
          go_ret
          exact ⟨ret_bool (HX.out.symm), HBW.out⟩
    · by_cases hnm : nm.toList = []
      · have hnm2 : nm.toList.isEmpty = true := by rw [hnm]; rfl
        have HNM := Aside0.mk (show nm.data.toList.isEmpty = true from by rw [← ByteArray.toList_eq]; exact hnm2)
        by_cases hn0 : n = 0
        · have hn1 : (n != 0) = false := bne_eq_false_iff_eq.2 hn0
          have HN0 := Aside0.mk hn0
          clear hn0
          by_cases hls : ls.length = 0
          · have hl1 : ¬ (0 < ls.length) := by omega
            have hl1z : ¬ ((ls.length : Int) > 0) := by omega
            have HLS := Aside0.mk hls
            clear hls
            have HX := Aside0.mk (rightT_good (show bareT k n nm ls = true from by unfold bareT; rw [HNM.out]; simp [HNM.out, HN0.out, HLS.out]) HALL.out)
            have HY := Aside0.mk (show kindT k n nm ls ar.length = false from by unfold kindT; rw [if_neg (by omega), if_neg H689.out.1, if_neg H689.out.2.2, if_neg H7.out, if_neg H689.out.2.1])
            go_wp2
            go_ret
            exact ⟨ret_bool (by rw [HX.out, HY.out]), HBW.out⟩
          · have hl1 : 0 < ls.length := by omega
            have hl1z : (ls.length : Int) > 0 := by omega
            have HLS := Aside0.mk hls
            clear hls
            have HX := Aside0.mk (rightT_bad (ar := ar) (show bareT k n nm ls = false from by unfold bareT; rw [HNM.out]; simp [HLS.out, H689.out.1, H689.out.2.1, H689.out.2.2]))
            go_wp2
            go_ret
            exact ⟨ret_bool (HX.out.symm), HBW.out⟩
        · have hn1 : (n != 0) = true := bne_iff_ne.2 hn0
          have HN0 := Aside0.mk hn0
          clear hn0
          have HX := Aside0.mk (rightT_bad (ar := ar) (show bareT k n nm ls = false from by unfold bareT; rw [HNM.out]; simp [HN0.out, H689.out.1, H689.out.2.1, H689.out.2.2]))
          go_wp2
          go_ret
          exact ⟨ret_bool (HX.out.symm), HBW.out⟩
      · have hnm2 : nm.toList.isEmpty = false := by cases h : nm.toList with | nil => exact absurd h hnm | cons a l => rfl
        have HNM := Aside0.mk (show nm.data.toList.isEmpty = false from by rw [← ByteArray.toList_eq]; exact hnm2)
        have hnm3 : (nm.toList != []) = true := by rw [bne_iff_ne]; exact hnm
        have HX := Aside0.mk (rightT_bad (ar := ar) (show bareT k n nm ls = false from by unfold bareT; rw [HNM.out]; simp [HNM.out, H689.out.1, H689.out.2.1, H689.out.2.2]))
        go_wp2
        go_ret
        exact ⟨ret_bool (HX.out.symm), HBW.out⟩
end Go.Proofs.Ytkeeknlfommieaa.PF
namespace Go.Proofs.Ytkeeknlfommieaa.PF
open Go.RowKit Go.Shelf Go.Proofs.YtkeeknlfommieaaW.PrintWords Go.Proofs.YtkeeknlfommieaaW.PrintLast Go.Proofs.YtkeeknlfommieaaW.PrintMore

def SomeInt (w : World) (e : Ending) (w' : World) : Prop := (∃ r : Int, e = .returned (.int .i64 r)) ∧ Below w.heap.size w w'
set_option maxRecDepth 100000 in
set_option maxHeartbeats 2000000 in
theorem much_calls (t : S26) : ∀ (w : World) (A3 : Option Addr) (c3 : Nat) (A4 : Option Addr) (c4 : Nat) (_ : t.f3.length ≤ c3) (_ : Kd.string.C w A3 t.f3.length t.f3) (_ : t.f4.length ≤ c4) (_ : k26.C w A4 t.f4.length t.f4),
    Calls Try.prog 24 #[.agg #[.int .i64 t.f0, .int .i64 t.f1, .string t.f2, .slice A3 t.f3.length c3, .slice A4 t.f4.length c4]] w (SomeInt w) := by
  induction t using S26.ind with
  | h k0 n nm ls ar ih =>
  intro w A3 c3 A4 c4 l3 g3 l4 g4
  dsimp only at l3 g3 l4 g4 ⊢
  have HG3 := Aside0.mk g3
  have HG4 := Aside0.mk g4
  have HIH := Aside0.mk ih
  have hl3 := g3.2.1
  have hl4 := g4.2.1
  clear ih l3 g3 l4 g4
  go_enter Try.func24, Try.ntmps24
  go_wp2_with fail
  go_loopg [3, 4] (1000 + ls.length) (fun gk v i wr => ∃ (r : Int) (k : Nat), v = .int .i64 r ∧ i = .int .i64 k ∧ Aside0 (gk + k = 1000 + ls.length ∧ k ≤ 1000) ∧ wr = w.alloc (.cells #[.int .i64 k0, .int .i64 n, .string nm, .slice A3 ls.length c3, .slice A4 ar.length c4] 26))
  case atStart => exact ⟨_, 0, rfl, rfl, ⟨by omega⟩, rfl⟩
  case round =>
    obtain ⟨r, k, rfl, rfl, HK, rfl⟩ := hrel
    by_cases hlt : k < ls.length ∧ k < 1000
    · obtain ⟨hlt, hk⟩ := hlt
      have hltZ : ((k : Int) < (ls.length : Int)) := by omega
      have hkZ : ((k : Int) < 1000) := by omega
      obtain ⟨ad, e, h0⟩ := elS (Kd.C_below HG3.out (below_alloc (Below.refl _ _) (.cells #[.int .i64 k0, .int .i64 n, .string nm, .slice A3 ls.length c3, .slice A4 ar.length c4] 26))) k hlt
      cases e
      generalize ls[k] = s at h0
      have HLT := Aside0.mk hlt
      clear hlt
      go_wp2
      go_roundg (gk - 1)
      case measure => have := HK.out; have := HLT.out; omega
      case rel => exact ⟨_, k + 1, rfl, by go_num, ⟨by have := HK.out; have := HLT.out; omega⟩, rfl⟩
    · have HD := Aside0.mk (show ∀ b : Bool, (decide ((k : Int) < (ls.length : Int)) && decide ((k : Int) < 1000)) = b → b = false from by
        rintro b rfl
        rw [Bool.and_eq_false_iff]
        simp only [decide_eq_false_iff_not]
        omega)
      by_cases h1 : (k : Int) < (ls.length : Int)
      · have h2 : ¬ (k : Int) < 1000 := by omega
        clear hlt
        go_wp2
        go_loopg [3, 5] ar.length (fun gk v i wr => ∃ (r : Int) (k : Nat), v = .int .i64 r ∧ i = .int .i64 k ∧ Aside0 (gk + k = ar.length) ∧ Aside0 (Below (w.heap.size + 1) (w.alloc (.cells #[.int .i64 k0, .int .i64 n, .string nm, .slice A3 ls.length c3, .slice A4 ar.length c4] 26)) wr))
        case atStart => exact ⟨_, 0, rfl, rfl, ⟨by omega⟩, ⟨Below.refl _ _⟩⟩
        case round =>
          clear HK
          obtain ⟨r, k, rfl, rfl, HK, HB⟩ := hrel
          have hz : w.heap.size < wr.heap.size := by have h_ := HB.out.size; simp only [World.size_alloc] at h_; omega
          obtain ⟨hcell, hfroz⟩ := bcell (W := w.alloc (.cells #[.int .i64 k0, .int .i64 n, .string nm, .slice A3 ls.length c3, .slice A4 ar.length c4] 26)) (by simpa only [World.size_alloc] using HB.out)
          have HBW := Aside0.mk ((below_alloc (Below.refl w.heap.size w) (.cells #[.int .i64 k0, .int .i64 n, .string nm, .slice A3 ls.length c3, .slice A4 ar.length c4] 26)).trans (HB.out.mono (by omega)))
          by_cases hlt : k < ar.length
          · have hltZ : ((k : Int) < (ar.length : Int)) := by omega
            by_cases hr : r < 3000
            · obtain ⟨ad, B3, d3, B4, d4, e, h0, h1, h2, h3, h4, l3, g3, l4, g4⟩ := el26 (Kd.C_below HG4.out HBW.out) k hlt
              cases e
              have HC := Aside0.mk (HIH.out ar[k] (List.getElem_mem hlt) wr B3 d3 B4 d4 l3 g3 l4 g4)
              generalize ar[k] = x at *
              have HLT := Aside0.mk hlt
              clear l3 g3 l4 g4 hlt
              go_wp2_with (go_at_call 24; refine HC.out.mono ?_; rintro e w1 ⟨⟨q, rfl⟩, hb1⟩)
              go_roundg (gk - 1)
              case measure => have := HK.out; have := HLT.out; omega
              case rel => exact ⟨_, k + 1, rfl, by go_num, ⟨by have := HK.out; have := HLT.out; omega⟩, ⟨HB.out.trans (hb1.mono (by omega))⟩⟩
            · go_wp2
              go_ret
              exact ⟨⟨_, rfl⟩, HBW.out⟩
          · have hltz : ¬ (k : Int) < (ar.length : Int) := by omega
            go_wp2
            go_ret
            exact ⟨⟨_, rfl⟩, HBW.out⟩
      · clear hlt
        go_wp2
        go_loopg [3, 5] ar.length (fun gk v i wr => ∃ (r : Int) (k : Nat), v = .int .i64 r ∧ i = .int .i64 k ∧ Aside0 (gk + k = ar.length) ∧ Aside0 (Below (w.heap.size + 1) (w.alloc (.cells #[.int .i64 k0, .int .i64 n, .string nm, .slice A3 ls.length c3, .slice A4 ar.length c4] 26)) wr))
        case atStart => exact ⟨_, 0, rfl, rfl, ⟨by omega⟩, ⟨Below.refl _ _⟩⟩
        case round =>
          clear HK
          obtain ⟨r, k, rfl, rfl, HK, HB⟩ := hrel
          have hz : w.heap.size < wr.heap.size := by have h_ := HB.out.size; simp only [World.size_alloc] at h_; omega
          obtain ⟨hcell, hfroz⟩ := bcell (W := w.alloc (.cells #[.int .i64 k0, .int .i64 n, .string nm, .slice A3 ls.length c3, .slice A4 ar.length c4] 26)) (by simpa only [World.size_alloc] using HB.out)
          have HBW := Aside0.mk ((below_alloc (Below.refl w.heap.size w) (.cells #[.int .i64 k0, .int .i64 n, .string nm, .slice A3 ls.length c3, .slice A4 ar.length c4] 26)).trans (HB.out.mono (by omega)))
          by_cases hlt : k < ar.length
          · have hltZ : ((k : Int) < (ar.length : Int)) := by omega
            by_cases hr : r < 3000
            · obtain ⟨ad, B3, d3, B4, d4, e, h0, h1, h2, h3, h4, l3, g3, l4, g4⟩ := el26 (Kd.C_below HG4.out HBW.out) k hlt
              cases e
              have HC := Aside0.mk (HIH.out ar[k] (List.getElem_mem hlt) wr B3 d3 B4 d4 l3 g3 l4 g4)
              generalize ar[k] = x at *
              have HLT := Aside0.mk hlt
              clear l3 g3 l4 g4 hlt
              go_wp2_with (go_at_call 24; refine HC.out.mono ?_; rintro e w1 ⟨⟨q, rfl⟩, hb1⟩)
              go_roundg (gk - 1)
              case measure => have := HK.out; have := HLT.out; omega
              case rel => exact ⟨_, k + 1, rfl, by go_num, ⟨by have := HK.out; have := HLT.out; omega⟩, ⟨HB.out.trans (hb1.mono (by omega))⟩⟩
            · go_wp2
              go_ret
              exact ⟨⟨_, rfl⟩, HBW.out⟩
          · have hltz : ¬ (k : Int) < (ar.length : Int) := by omega
            go_wp2
            go_ret
            exact ⟨⟨_, rfl⟩, HBW.out⟩
end Go.Proofs.Ytkeeknlfommieaa.PF
namespace Go.Proofs.Ytkeeknlfommieaa.PF
open Go.RowKit Go.Shelf Go.Sort Go.Proofs.YtkeeknlfommieaaW.PrintWords Go.Proofs.YtkeeknlfommieaaW.PrintLast Go.Proofs.YtkeeknlfommieaaW.PrintMore

theorem FE.h15 (e : FE) : ∀ v ∈ e.enc5, v.oneCell' = true := by
  intro v hv
  simp only [FE.enc5, List.mem_cons, List.not_mem_nil, or_false] at hv
  rcases hv with rfl | rfl | rfl | rfl | rfl <;> rfl
def ResTy (y : S26 × Bool) (w : World) (e : Ending) (w' : World) : Prop := (∃ v, e = .returned (.tuple #[v, .bool y.2]) ∧ RT w' v y.1) ∧ Below w.heap.size w w'
set_option maxRecDepth 100000 in
set_option maxHeartbeats 4000000 in
theorem rec_calls (hi : Nat) (hs : SortOK hi) (hi32 : hi ≤ 4294967296) (A B : Option Addr) (c d : Nat) (ls : List ByteArray) (ar : List S26) (w : World) (lc : ls.length ≤ c) (ld : ar.length ≤ d) (g3 : Kd.string.C w A ls.length ls) (g4 : k26.C w B ar.length ar) (hn : ls.length ≤ hi) :
    Calls Try.prog 40 #[.slice A ls.length c, .slice B ar.length d] w (ResTy (recT ls ar) w) := by
  by_cases hl : ls.length = ar.length
  · have hl' : ((ls.length : Int) != (ar.length : Int)) = false := by rw [bne_eq_false_iff_eq]; omega
    obtain ⟨es, hf⟩ := fields_of g3 g4 hl
    have HF := Aside0.mk hf
    have HLS := Aside0.mk hf.len.1
    have HAR := Aside0.mk hf.len.2
    have HR := Aside0.mk (show recT ls ar = recOf ((ls.zip ar).mergeSort leP) from by unfold recT; rw [if_pos hl])
    have HN := Aside0.mk hn
    have HS := Aside0.mk hs
    have HI := Aside0.mk hi32
    have hls := g3.2.1
    clear hf g3 g4 lc ld hl hn hs hi32
    go_enter Try.func40, Try.ntmps40
    go_wp2_with fail
    go_loopg [6, 20] ls.length (fun gk v i wr => ∃ k : Nat, i = .int .i64 k ∧ Aside0 (gk + k = ls.length) ∧ Aside0 (k = 0 → v = .slice none 0 0) ∧ Aside0 (wr.ownsRow (w.heap.size + 1) 89 6 v k ((es.take k).flatMap FE.enc)) ∧ Aside0 (Below (w.heap.size + 1) (w.alloc (.cells #[.int .i64 0, .int .i64 0, .string ⟨#[]⟩, .slice none 0 0, .slice none 0 0] 26)) wr))
    case atStart => exact ⟨0, rfl, ⟨rfl⟩, ⟨fun _ => rfl⟩, ⟨World.ownsRow_nil _ _ _ _⟩, ⟨Below.refl _ _⟩⟩
    case round =>
      obtain ⟨k, rfl, HK, HNIL, HO, HB⟩ := hrel
      by_cases hlt : k < ls.length
      · have hltZ : ((k : Int) < (ls.length : Int)) := by omega
        have hltZ2 : ((k : Int) < (ar.length : Int)) := by have := HLS.out; have := HAR.out; omega
        have hlt2 : k < es.length := by have := HLS.out; omega
        have hbw : Below w.heap.size w wr := (below_alloc (Below.refl _ _) _).trans (HB.out.mono (by omega))
        obtain ⟨ad, bd, eA, eB, h0, h1, h2, h3, h4, h5⟩ := HF.out.cl k hlt2
        cases eA
        cases eB
        have HT := Aside0.mk (show (es.take (k + 1)).flatMap FE.enc = (es.take k).flatMap FE.enc ++ (es[k]).enc from by rw [List.take_succ_eq_append_getElem hlt2, List.flatMap_append]; simp)
        generalize es[k] = e at *
        have q0 := pw_cell_below hbw h0
        have q1 := pw_cell_below hbw h1
        have q2 := pw_cell_below hbw h2
        have q3 := pw_cell_below hbw h3
        have q4 := pw_cell_below hbw h4
        have q5 := pw_cell_below hbw h5
        have HLT := Aside0.mk hlt
        clear h0 h1 h2 h3 h4 h5 hlt hlt2 hbw
        have hsz : w.heap.size + 1 ≤ wr.heap.size := by have h_ := HB.out.size; simpa only [World.size_alloc] using h_
        go_wp2_with ((with_reducible refine gate_builtin (b := .append) (xs := #[.tmp 25, .tmp 32]) rfl ?_); at_builtin; refine print_append_cells (w0 := (w.alloc (.cells #[.int .i64 0, .int .i64 0, .string ⟨#[]⟩, .slice none 0 0, .slice none 0 0] 26))) (w.heap.size + 1) rfl (.tmp 25) (.tmp 32) 87 89 (.agg #[(.string ⟨#[]⟩), (.int .i64 0), (.int .i64 0), (.string ⟨#[]⟩), (.slice none 0 0), (.slice none 0 0)]) 6 96 rfl Try.underlying87 info89 rfl (by decide) (by omega) _ k _ [.string e.l, .int .i64 e.v.x.f0, .int .i64 e.v.x.f1, .string e.v.x.f2, .slice e.v.A3 e.v.x.f3.length e.v.c3, .slice e.v.A4 e.v.x.f4.length e.v.c4] rfl rfl rfl (FE.h1 e) HO.out HB.out hsz (by have := HLT.out; have := HN.out; have := HI.out; omega) ?_; intro v1 w1 ho hb _ _)
        go_roundg (gk - 1)
        case measure => have := HK.out; have := HLT.out; omega
        case rel => exact ⟨k + 1, by go_num, ⟨by have := HK.out; have := HLT.out; omega⟩, ⟨fun h => by omega⟩, ⟨by rw [HT.out]; exact ho⟩, ⟨hb⟩⟩
      · have hltz : ¬ (k : Int) < (ls.length : Int) := by omega
        obtain rfl : k = ls.length := by have := HK.out; omega
        have hsz : w.heap.size + 1 ≤ wr.heap.size := by have h_ := HB.out.size; simpa only [World.size_alloc] using h_
        obtain ⟨A1, cap1, rfl, hcall⟩ := sort_any HS.out HO.out (by rw [List.length_take]; have := HLS.out; omega) HN.out HNIL.out hsz
        rw [List.take_of_length_le (by have := HLS.out; omega)] at hcall
        have HC := Aside0.mk hcall
        clear HK hltz hlt hcall HNIL HO
        go_wp2_with (go_at_call 74; refine HC.out.mono ?_; rintro e W2 ⟨rfl, es', hrow⟩; have HROW := Aside0.mk hrow; clear hrow)
        have HLE := Aside0.mk (show es'.length = ls.length from by rw [HROW.out.perm.length_eq, HLS.out])
        obtain ⟨T, hT⟩ : ∃ T, W2.heap.size = T := ⟨_, rfl⟩
        have HTS := Aside0.mk hT
        have hT0 := blk_new W2 (.cells #[.int .i64 8, .int .i64 0, .string ⟨#[]⟩, .slice none 0 0, .slice none 0 0] 26)
        rw [hT] at hT0 ⊢
        have HT0 := Aside0.mk hT0
        clear hT hT0
        go_loopg [40] ls.length (fun gk i wr => ∃ (k : Nat) (vL vA : Value), i = .int .i64 k ∧ Aside0 (gk + k = ls.length) ∧ Aside0 (wr.heap[T]? = some (.cells #[.int .i64 8, .int .i64 0, .string ⟨#[]⟩, vL, vA] 26 (0, 0))) ∧ Aside0 (wr.ownsRow (T + 1) 9 1 vL k (((es'.take k).map FE.l).map Value.string)) ∧ Aside0 (wr.ownsRow (T + 1) 26 5 vA k ((es'.take k).flatMap FE.enc5)) ∧ Aside0 (Below T W2 wr) ∧ Aside0 (T + 1 ≤ wr.heap.size))
        case atStart => exact ⟨0, _, _, rfl, ⟨rfl⟩, HT0, ⟨World.ownsRow_nil _ _ _ _⟩, ⟨World.ownsRow_nil _ _ _ _⟩, ⟨by have := below_alloc (Below.refl W2.heap.size W2) (.cells #[.int .i64 8, .int .i64 0, .string ⟨#[]⟩, .slice none 0 0, .slice none 0 0] 26); rw [HTS.out] at this; exact this⟩, ⟨by rw [World.size_alloc, HTS.out]; exact Nat.le_refl _⟩⟩
        case round =>
          obtain ⟨k, vL, vA, rfl, HK, HTB, HVL, HVA, HB2, HSZ⟩ := hrel
          by_cases hlt : k < ls.length
          · have hltZ : ((k : Int) < (ls.length : Int)) := by omega
            have hlt2 : k < es'.length := by have := HLE.out; omega
            have hbw : Below W2.heap.size W2 wr := by rw [HTS.out]; exact HB2.out
            obtain ⟨ad, eA, h0, h1, h2, h3, h4, h5⟩ := HROW.out.cl k hlt2
            cases eA
            have HT1 := Aside0.mk (show ((es'.take (k + 1)).map FE.l).map Value.string = ((es'.take k).map FE.l).map Value.string ++ [.string es'[k].l] from by rw [List.take_succ_eq_append_getElem hlt2, List.map_append, List.map_append]; rfl)
            have HT2 := Aside0.mk (show (es'.take (k + 1)).flatMap FE.enc5 = (es'.take k).flatMap FE.enc5 ++ (es'[k]).enc5 from by rw [List.take_succ_eq_append_getElem hlt2, List.flatMap_append]; simp)
            generalize es'[k] = e at *
            have q0 := pw_cell_below hbw h0
            have q1 := pw_cell_below hbw h1
            have q2 := pw_cell_below hbw h2
            have q3 := pw_cell_below hbw h3
            have q4 := pw_cell_below hbw h4
            have q5 := pw_cell_below hbw h5
            have HLT := Aside0.mk hlt
            clear h0 h1 h2 h3 h4 h5 hlt hlt2 hbw
            have hc3 := blk_cell HTB.out 3
            have hc4 := blk_cell HTB.out 4
            simp at hc3 hc4
            have hz : T < wr.heap.size := HSZ.out
            go_wp2_with (first | ((with_reducible refine gate_builtin (b := .append) (xs := #[.tmp 45, .tmp 48]) rfl ?_); at_builtin; refine print_append_cells (w0 := wr.alloc (.cells #[.string e.l, .int .i64 e.v.x.f0, .int .i64 e.v.x.f1, .string e.v.x.f2, .slice e.v.A3 e.v.x.f3.length e.v.c3, .slice e.v.A4 e.v.x.f4.length e.v.c4] 89)) (W := wr.alloc (.cells #[.string e.l, .int .i64 e.v.x.f0, .int .i64 e.v.x.f1, .string e.v.x.f2, .slice e.v.A3 e.v.x.f3.length e.v.c3, .slice e.v.A4 e.v.x.f4.length e.v.c4] 89)) (T + 1) rfl (.tmp 45) (.tmp 48) 23 9 (.string ⟨#[]⟩) 1 16 rfl Try.underlying23 info9 rfl (by decide) (by omega) vL k _ [.string e.l] rfl (by rw [World.size_alloc]; rfl) rfl (by intro u hu; simp only [List.mem_singleton] at hu; rw [hu]; rfl) (HVL.out.alloc _) (Below.refl _ _) (by have := HSZ.out; simp only [World.size_alloc]; omega) (by have := HLT.out; have := HN.out; have := HI.out; omega) ?_; intro v1 w1 ho1 hb1 hg1 hat1; obtain ⟨g1, cap1', rfl⟩ := ownsRow_succ ho1; have HO1 := Aside0.mk ho1; have HB1 := Aside0.mk hb1; have HG1 := Aside0.mk hg1; have hT1 : w1.heap[T]? = some (.cells #[.int .i64 8, .int .i64 0, .string ⟨#[]⟩, vL, vA] 26 (0, 0)) := (hb1.block T (Nat.lt_succ_self T)).trans (blk_alloc HTB.out _); have hF1 : w1.heap[wr.heap.size]? = some (.cells #[.string e.l, .int .i64 e.v.x.f0, .int .i64 e.v.x.f1, .string e.v.x.f2, .slice e.v.A3 e.v.x.f3.length e.v.c3, .slice e.v.A4 e.v.x.f4.length e.v.c4] 89 (0, 0)) := blk_grown (blk_new wr _) hg1 (fun h_ => by have h2_ := (HVL.out.lt _ h_.symm).2; omega); have HTT := Aside0.mk hT1; have HFF := Aside0.mk hF1; have c3 := blk_cell hT1 3; have c4 := blk_cell hT1 4; have f0 := blk_cell hF1 0; have f1 := blk_cell hF1 1; have f2 := blk_cell hF1 2; have f3 := blk_cell hF1 3; have f4 := blk_cell hF1 4; have f5 := blk_cell hF1 5; have fz := blk_frozen hT1 3; have hne : wr.heap.size ≠ T := Nat.ne_of_gt hz; simp at c3 c4 f0 f1 f2 f3 f4 f5; clear ho1 hb1 hg1 hat1 hT1 hF1) | ((with_reducible refine gate_builtin (b := .append) (xs := #[.tmp 52, .tmp 55]) rfl ?_); at_builtin; refine print_append_cells (w0 := w1.setCell ⟨T, 3, none⟩ (.slice (some ⟨g1, 0, none⟩) (k + 1) cap1')) (W := w1.setCell ⟨T, 3, none⟩ (.slice (some ⟨g1, 0, none⟩) (k + 1) cap1')) (T + 1) rfl (.tmp 52) (.tmp 55) 24 26 (.agg #[(.int .i64 0), (.int .i64 0), (.string ⟨#[]⟩), (.slice none 0 0), (.slice none 0 0)]) 5 80 rfl Try.underlying24 info26 rfl (by decide) (by omega) vA k _ [.int .i64 e.v.x.f0, .int .i64 e.v.x.f1, .string e.v.x.f2, .slice e.v.A3 e.v.x.f3.length e.v.c3, .slice e.v.A4 e.v.x.f4.length e.v.c4] rfl (by rw [World.size_setCell]; rfl) rfl (FE.h15 e) (((HVA.out.alloc _).kept HG1.out (row_ne HVA.out HVL.out (by decide))).kept (grownBy_set w1 T 3 _) (own_far HVA.out)) (Below.refl _ _) (by have := HSZ.out; have h_ := HB1.out.size; simp only [World.size_alloc, World.size_setCell] at h_ ⊢; omega) (by have := HLT.out; have := HN.out; have := HI.out; omega) ?_; intro v2 w2 ho2 hb2 hg2 hat2; obtain ⟨g2, cap2', rfl⟩ := ownsRow_succ ho2; have HO2 := Aside0.mk ho2; have HB3 := Aside0.mk hb2; have HG2 := Aside0.mk hg2; have hT3 : w2.heap[T]? = some (.cells #[.int .i64 8, .int .i64 0, .string ⟨#[]⟩, .slice (some ⟨g1, 0, none⟩) (k + 1) cap1', vA] 26 (0, 0)) := (hb2.block T (Nat.lt_succ_self T)).trans (blk_put HTT.out 3 _ rfl); have d4 := blk_cell hT3 4; have dz := blk_frozen hT3 4; simp at d4; clear ho2 hb2 hg2 hat2 hT3))
            go_roundg (gk - 1)
            case measure => have := HK.out; have := HLT.out; omega
            case rel =>
              have hr := round2 HB2.out HSZ.out HTB.out HVL.out HVA.out HO1.out HB1.out HG1.out HO2.out HB3.out HG2.out
              exact ⟨k + 1, _, _, by go_num, ⟨by have := HK.out; have := HLT.out; omega⟩, ⟨hr.1⟩, ⟨by rw [HT1.out]; exact hr.2.1⟩, ⟨by rw [HT2.out]; exact hr.2.2.1⟩, ⟨hr.2.2.2.1⟩, ⟨hr.2.2.2.2⟩⟩
          · have hltz : ¬ (k : Int) < (ls.length : Int) := by omega
            obtain rfl : k = ls.length := by have := HK.out; omega
            clear HK hlt hltz
            have h1 := HVL.out
            have h2 := HVA.out
            rw [List.take_of_length_le (by have := HLE.out; omega)] at h1 h2
            have hbW : Below w.heap.size w W2 := (below_alloc (Below.refl _ _) _).trans ((HB.out.mono (by omega)).trans (HROW.out.low.mono (by omega)))
            have hbr : Below w.heap.size w wr := hbW.trans (HB2.out.mono (by rw [← HTS.out]; exact hbW.size))
            obtain ⟨AL, cl, rfl, hlc, hCL⟩ := cS_of_own h1
            obtain ⟨AA, ca, rfl, hac, hCA⟩ := c26_of_own h2 HLE.out (by have := HN.out; have := HI.out; omega) (fun e he => (HF.out.rt e (HROW.out.perm.subset he)).below hbr)
            have hz : w.heap.size + 1 ≤ T := by rw [← HTS.out]; exact Nat.le_trans (by have h_ := HB.out.size; simpa only [World.size_alloc] using h_) HROW.out.low.size
            have HBO := Aside0.mk (show wr.heap[w.heap.size]? = some (.cells #[.int .i64 0, .int .i64 0, .string ⟨#[]⟩, .slice none 0 0, .slice none 0 0] 26 (0, 0)) from
              (HB2.out.block _ (by omega)).trans ((HROW.out.low.block _ (Nat.lt_succ_self _)).trans ((HB.out.block _ (Nat.lt_succ_self _)).trans (blk_new w _))))
            have HSP := Aside0.mk (recT_es HF.out.l HF.out.x HROW.out.perm HROW.out.sorted)
            have HCL := Aside0.mk hCL
            have HCA := Aside0.mk hCA
            have HBR := Aside0.mk hbr
            have HV1 := Aside0.mk h1
            have HV2 := Aside0.mk h2
            have HRT := Aside0.mk (fun e he => HF.out.rt e (HROW.out.perm.subset he))
            have hll : (es'.map FE.l).length = ls.length := by simp [HLE.out]
            have hla : (es'.map fun e => e.v.x).length = ls.length := by simp [HLE.out]
            have HLL := Aside0.mk (And.intro hll hla)
            have HRS := Aside0.mk (fun W hb => rising_calls AL cl (es'.map FE.l) W (by rw [hll]; exact Kd.C_below hCL hb))
            rw [hll] at HRS
            clear hCL hCA hbr hbW h1 h2 hll hla
            have hzw : T < wr.heap.size := HSZ.out
            have hzr : w.heap.size < wr.heap.size := by omega
            have t0 := blk_cell HTB.out 0
            have t1 := blk_cell HTB.out 1
            have t2 := blk_cell HTB.out 2
            have t3 := blk_cell HTB.out 3
            have t4 := blk_cell HTB.out 4
            simp at t0 t1 t2 t3 t4
            obtain ⟨b, hb⟩ : ∃ b, risingN (bl (es'.map FE.l)) = b := ⟨_, rfl⟩
            have HBV := Aside0.mk hb
            clear hb
            have r0 := blk_cell HBO.out 0
            have r1 := blk_cell HBO.out 1
            have r2 := blk_cell HBO.out 2
            have r3 := blk_cell HBO.out 3
            have r4 := blk_cell HBO.out 4
            have rz := fun i => blk_frozen HBO.out i
            simp at r0 r1 r2 r3 r4
            cases b with
            | true =>
              go_wp2_with (go_at_call 67; refine (HRS.out _ (Below.refl _ _)).mono ?_; rw [HBV.out]; rintro e w3 ⟨rfl, hb3⟩; obtain ⟨hcell, hfroz⟩ := bcell hb3; have HB3 := Aside0.mk hb3; have hz3 : wr.heap.size ≤ w3.heap.size := hb3.size; clear hb3)
              refine bodyPost_ret (results_ct rfl _ _ w.heap.size 26 _ (0, 0) _ rfl (put5 (blk_below HBO.out HB3.out)) Try.underlying26 rfl (by kernel_rfl)) rfl ?_
              have hbf := below5 (b0 := .int .i64 8) (b1 := .int .i64 0) (b2 := .string ⟨#[]⟩) (b3 := .slice AL ls.length cl) (b4 := .slice AA ls.length ca) (HBR.out.trans (HB3.out.mono (by omega))) (Nat.le_refl w.heap.size)
              have ho1 := own_put5 (b0 := .int .i64 8) (b1 := .int .i64 0) (b2 := .string ⟨#[]⟩) (b3 := .slice AL ls.length cl) (b4 := .slice AA ls.length ca) (HV1.out.kept (grownBy_below HB3.out) (Classical.em _)) (show w.heap.size ≤ T by omega)
              have ho2 := own_put5 (b0 := .int .i64 8) (b1 := .int .i64 0) (b2 := .string ⟨#[]⟩) (b3 := .slice AL ls.length cl) (b4 := .slice AA ls.length ca) (HV2.out.kept (grownBy_below HB3.out) (Classical.em _)) (show w.heap.size ≤ T by omega)
              have hrd := rec_reads ho1 ho2 HLE.out (by have := HN.out; have := HI.out; omega) HRT.out hbf
              rw [HSP.out, if_pos HBV.out]
              exact ⟨⟨_, rfl, hrd⟩, hbf⟩
            | false =>
              go_wp2_with (go_at_call 67; refine (HRS.out _ (Below.refl _ _)).mono ?_; rw [HBV.out]; rintro e w3 ⟨rfl, hb3⟩; obtain ⟨hcell, hfroz⟩ := bcell hb3; have HB3 := Aside0.mk hb3; have hz3 : wr.heap.size ≤ w3.heap.size := hb3.size; clear hb3)
              refine bodyPost_ret (results_ct rfl _ _ w.heap.size 26 _ (0, 0) _ rfl (put5 (blk_below HBO.out HB3.out)) Try.underlying26 rfl (by kernel_rfl)) rfl ?_
              rw [HSP.out, if_neg (by rw [HBV.out]; exact Bool.false_ne_true)]
              exact ⟨⟨_, rfl, RT_z _⟩, below5 (HBR.out.trans (HB3.out.mono (by omega))) (Nat.le_refl _)⟩
  · have hl' : ((ls.length : Int) != (ar.length : Int)) = true := by rw [bne_iff_ne]; omega
    have HR := Aside0.mk (show recT ls ar = (z26, false) from by unfold recT; rw [if_neg hl])
    clear g3 g4 lc ld hl hn hs
    go_enter Try.func40, Try.ntmps40
    have hb0 := blk_new w (.cells #[.int .i64 0, .int .i64 0, .string ⟨#[]⟩, .slice none 0 0, .slice none 0 0] 26)
    go_wp2
    refine bodyPost_ret (results_ct rfl _ _ w.heap.size 26 _ (0, 0) _ rfl hb0 Try.underlying26 rfl (by kernel_rfl)) rfl ?_
    rw [HR.out]
    exact ⟨⟨_, rfl, RT_z _⟩, below_alloc (Below.refl _ _) _⟩
end Go.Proofs.Ytkeeknlfommieaa.PF
namespace Go.Proofs.Ytkeeknlfommieaa.PF
open Go.RowKit Go.Shelf Go.Proofs.YtkeeknlfommieaaW.PrintWords Go.Proofs.YtkeeknlfommieaaW.PrintLast Go.Proofs.YtkeeknlfommieaaW.PrintMore

theorem addb (a : Addr) (n : Nat) : (a.add n).block = a.block := by unfold Addr.add; first | rfl | (split <;> rfl)
def Plain (W : World) (bt : Nat) : Prop := W.heap[bt]? = some (.cells #[.int .i64 0, .int .i64 0, .string ⟨#[]⟩, .slice none 0 0, .slice none 0 0] 26 (0, 0))
theorem Plain.ne {W : World} {bt : Nat} (h : Plain W bt) {a : Addr} {u : Value} (hc : W.cell? a = some u) (hu : u ≠ .int .i64 0 ∧ u ≠ .string ⟨#[]⟩ ∧ u ≠ .slice none 0 0) : a.block ≠ bt := by
  intro e
  unfold World.cell? at hc
  rw [e, show W.heap[bt]? = _ from h] at hc
  dsimp only at hc
  split at hc
  · cases hc
  · generalize a.off = o at hc
    match o, hc with
    | 0, hc => exact hu.1 (by simpa using hc.symm)
    | 1, hc => exact hu.1 (by simpa using hc.symm)
    | 2, hc => exact hu.2.1 (by simpa using hc.symm)
    | 3, hc => exact hu.2.2 (by simpa using hc.symm)
    | 4, hc => exact hu.2.2 (by simpa using hc.symm)
    | o + 5, hc => simp at hc
/-- Off block bt the two worlds are one. -/
def OffB (W W' : World) (bt : Nat) : Prop := ∀ k, k ≠ bt → W'.heap[k]? = W.heap[k]?
theorem OffB.cell {W W' : World} {bt : Nat} (h : OffB W W' bt) {a : Addr} (hne : a.block ≠ bt) : W'.cell? a = W.cell? a := World.cell?_of_block (h _ hne)
theorem offS {W W' : World} {bt : Nat} (h : OffB W W' bt) (hp : Plain W bt) {A : Option Addr} {ls : List ByteArray} (hC : Kd.string.C W A ls.length ls) (hs : ∀ s ∈ ls, s ≠ ⟨#[]⟩) : Kd.string.C W' A ls.length ls := by
  refine ⟨hC.1, hC.2.1, fun h0 => ?_⟩
  obtain ⟨ad, rfl, hall⟩ := hC.2.2 h0
  obtain ⟨ad', e, hc0⟩ := elS hC 0 h0
  cases e
  have hne : ad.block ≠ bt := hp.ne hc0 ⟨by simp, by simpa using hs _ (List.getElem_mem h0), by simp⟩
  refine ⟨ad, rfl, fun j p hj => ?_⟩
  obtain ⟨c, h1, h2, h3⟩ := hall j p hj
  exact ⟨c, h1, h2, fun i u hu => (h.cell (a := ad.add (j * _ + i)) (by rw [addb]; exact hne)).trans (h3 i u hu)⟩

/-- No kind is 0, no label is empty. -/
inductive FullT : S26 → Prop
  | mk (k n : Int) (nm : ByteArray) (ls : List ByteArray) (ar : List S26) (hk : k ≠ 0) (hs : ∀ s ∈ ls, s ≠ ⟨#[]⟩) (ha : ∀ x ∈ ar, FullT x) : FullT ⟨k, n, nm, ls, ar⟩
theorem off26 {W W' : World} {bt : Nat} (h : OffB W W' bt) (hp : Plain W bt) (x : S26) : FullT x → ∀ {cs : List Value}, k26.K W x cs → k26.K W' x cs := by
  induction x using S26.ind with
  | h k n nm ls ar ih =>
  intro hx cs hK
  cases hx with
  | mk _ _ _ _ _ hk hs ha =>
  obtain ⟨A3, c3, A4, c4, rfl, l3, g3, l4, g4⟩ := k26_open hK
  dsimp only at l3 g3 l4 g4
  refine k26_mk W' ⟨k, n, nm, ls, ar⟩ l3 (offS h hp g3 hs) l4 ?_
  dsimp only
  refine ⟨g4.1, g4.2.1, fun h0 => ?_⟩
  obtain ⟨ad, rfl, hall⟩ := g4.2.2 h0
  obtain ⟨ad', B3, d3, B4, d4, e, hc0, _⟩ := el26 g4 0 h0
  cases e
  have hne : ad.block ≠ bt := by
    have hf := ha _ (List.getElem_mem h0)
    refine hp.ne hc0 ⟨?_, by simp, by simp⟩
    intro e
    generalize ar[0] = z at hf e
    cases hf with
    | mk k' _ _ _ _ hk' _ _ => exact hk' (by simpa using e)
  refine ⟨ad, rfl, fun j p hj => ?_⟩
  obtain ⟨c, h1, h2, h3⟩ := hall j p hj
  have hm : p ∈ ar := List.mem_of_getElem? hj
  exact ⟨c, h1, ih p hm (ha p hm) h2, fun i u hu => (h.cell (a := ad.add (j * _ + i)) (by rw [addb]; exact hne)).trans (h3 i u hu)⟩
theorem RT.off {W W' : World} {bt : Nat} (h : OffB W W' bt) (hp : Plain W bt) {v : Value} {x : S26} (hx : FullT x) (hr : RT W v x) : RT W' v x := by
  obtain ⟨A3, c3, A4, c4, rfl, l3, g3, l4, g4⟩ := hr
  have := off26 h hp x hx (k26_mk W x l3 g3 l4 g4)
  obtain ⟨B3, d3, B4, d4, e, l3', g3', l4', g4'⟩ := k26_open this
  simp at e
  obtain ⟨⟨rfl, rfl⟩, rfl, rfl⟩ := e
  exact ⟨A3, c3, A4, c4, rfl, l3, g3', l4, g4'⟩
theorem offB_put5 {W : World} {g : Nat} {b0 b1 b2 b3 b4 : Value} : OffB W (((((W.setCell ⟨g, 0, none⟩ b0).setCell ⟨g, 1, none⟩ b1).setCell ⟨g, 2, none⟩ b2).setCell ⟨g, 3, none⟩ b3).setCell ⟨g, 4, none⟩ b4) g := by
  intro k hk
  have : ∀ (W : World) (i : Nat) (u : Value), (W.setCell ⟨g, i, none⟩ u).heap[k]? = W.heap[k]? := fun W i u => Below.heap_setCell W ⟨g, i, none⟩ u k hk
  rw [this, this, this, this, this]
theorem put5P {W : World} {g : Nat} {b0 b1 b2 b3 b4 : Value} (h : Plain W g) : (((((W.setCell ⟨g, 0, none⟩ b0).setCell ⟨g, 1, none⟩ b1).setCell ⟨g, 2, none⟩ b2).setCell ⟨g, 3, none⟩ b3).setCell ⟨g, 4, none⟩ b4).heap[g]? = some (.cells #[b0, b1, b2, b3, b4] 26 (0, 0)) := put5 h
end Go.Proofs.Ytkeeknlfommieaa.PF
