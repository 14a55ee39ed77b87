/- The law TySame: the walk. -/
import Derived.Test.YtkeeknlfommieaaC0
import Derived.Test.YtkeeknlfommieaaC1
import Derived.Test.YtkeeknlfommieaaE0
import Derived.Deep.RegionHeld3
namespace Go.Proofs.Ytkeeknlfommieaa.PF
open Go.RowKit Go.Shelf Go.Proofs.YtkeeknlfommieaaW.PrintWords Go.Proofs.YtkeeknlfommieaaW.PrintLast Go.Proofs.YtkeeknlfommieaaW.PrintMore
/-- Two boxed types, in every world that the walk passes through. -/
abbrev S2 (w : World) (a0 a1 a2 a3 a4 b0 b1 b2 b3 b4 : Value) (W : World) : Prop := W.cell? ⟨w.heap.size, 0, none⟩ = some a0 ∧ W.cell? ⟨w.heap.size, 1, none⟩ = some a1 ∧ W.cell? ⟨w.heap.size, 2, none⟩ = some a2 ∧ W.cell? ⟨w.heap.size, 3, none⟩ = some a3 ∧ W.cell? ⟨w.heap.size, 4, none⟩ = some a4 ∧ W.cell? ⟨w.heap.size + 1, 0, none⟩ = some b0 ∧ W.cell? ⟨w.heap.size + 1, 1, none⟩ = some b1 ∧ W.cell? ⟨w.heap.size + 1, 2, none⟩ = some b2 ∧ W.cell? ⟨w.heap.size + 1, 3, none⟩ = some b3 ∧ W.cell? ⟨w.heap.size + 1, 4, none⟩ = some b4 ∧ Below w.heap.size w W ∧ w.heap.size + 1 < W.heap.size
theorem S2.drew {w W : World} {a0 a1 a2 a3 a4 b0 b1 b2 b3 b4 : Value} (h : S2 w a0 a1 a2 a3 a4 b0 b1 b2 b3 b4 W) : S2 w a0 a1 a2 a3 a4 b0 b1 b2 b3 b4 W.drew := by
  obtain ⟨a0, a1, a2, a3, a4, b0, b1, b2, b3, b4, hb, hz⟩ := h
  exact ⟨a0, a1, a2, a3, a4, b0, b1, b2, b3, b4, below_drew hb, hz⟩
theorem S2.call {w W W' : World} {a0 a1 a2 a3 a4 b0 b1 b2 b3 b4 : Value} (h : S2 w a0 a1 a2 a3 a4 b0 b1 b2 b3 b4 W) (hw : Below W.heap.size W W') : S2 w a0 a1 a2 a3 a4 b0 b1 b2 b3 b4 W' := by
  obtain ⟨a0, a1, a2, a3, a4, b0, b1, b2, b3, b4, hb, hz⟩ := h
  have hc : ∀ b i, b ≤ w.heap.size + 1 → W'.cell? ⟨b, i, none⟩ = W.cell? ⟨b, i, none⟩ := fun b i hi => hw.cell (p := ⟨b, i, none⟩) (show b < W.heap.size by omega)
  refine ⟨?_, ?_, ?_, ?_, ?_, ?_, ?_, ?_, ?_, ?_, hb.trans (hw.mono (by omega)), Nat.lt_of_lt_of_le hz hw.size⟩ <;> (rw [hc _ _ (by omega)]; assumption)
theorem S2.start (w : World) (a0 a1 a2 a3 a4 b0 b1 b2 b3 b4 : Value) (t t' : TypeId) : S2 w a0 a1 a2 a3 a4 b0 b1 b2 b3 b4 ((w.alloc (.cells #[a0, a1, a2, a3, a4] t)).alloc (.cells #[b0, b1, b2, b3, b4] t')) := by
  refine ⟨?_, ?_, ?_, ?_, ?_, ?_, ?_, ?_, ?_, ?_, below_alloc (below_alloc (Below.refl _ _) _) _, by simp⟩ <;> simp
theorem S2.low {w W : World} {a0 a1 a2 a3 a4 b0 b1 b2 b3 b4 : Value} (h : S2 w a0 a1 a2 a3 a4 b0 b1 b2 b3 b4 W) : Below w.heap.size w W := h.2.2.2.2.2.2.2.2.2.2.1
set_option maxRecDepth 100000 in
set_option maxHeartbeats 4000000 in
theorem tysame_calls (x y : S26) (w : World) (A3 : Option Addr) (c3 : Nat) (A4 : Option Addr) (c4 : Nat) (B3 : Option Addr) (d3 : Nat) (B4 : Option Addr) (d4 : Nat) (l3 : x.f3.length ≤ c3) (g3 : Kd.string.C w A3 x.f3.length x.f3) (l4 : x.f4.length ≤ c4) (g4 : k26.C w A4 x.f4.length x.f4) (m3 : y.f3.length ≤ d3) (f3 : Kd.string.C w B3 y.f3.length y.f3) (m4 : y.f4.length ≤ d4) (f4 : k26.C w B4 y.f4.length y.f4) :
    Calls Try.prog 7 #[.agg #[.int .i64 x.f0, .int .i64 x.f1, .string x.f2, .slice A3 x.f3.length c3, .slice A4 x.f4.length c4], .agg #[.int .i64 y.f0, .int .i64 y.f1, .string y.f2, .slice B3 y.f3.length d3, .slice B4 y.f4.length d4]] w fun e w' => e = .returned (.bool true) ∧ Below w.heap.size w w' := by
  have HM := Aside0.mk (fun (W : World) (hb : Below w.heap.size w W) => much_calls x W A3 c3 A4 c4 l3 (Kd.C_below g3 hb) l4 (Kd.C_below g4 hb))
  have HN := Aside0.mk (fun (W : World) (hb : Below w.heap.size w W) => much_calls y W B3 d3 B4 d4 m3 (Kd.C_below f3 hb) m4 (Kd.C_below f4 hb))
  have HXY := Aside0.mk (fun (W : World) (hb : Below w.heap.size w W) => same_calls x y W A3 c3 A4 c4 B3 d3 B4 d4 l3 (Kd.C_below g3 hb) l4 (Kd.C_below g4 hb) m3 (Kd.C_below f3 hb) m4 (Kd.C_below f4 hb))
  have HYX := Aside0.mk (fun (W : World) (hb : Below w.heap.size w W) => same_calls y x W B3 d3 B4 d4 A3 c3 A4 c4 m3 (Kd.C_below f3 hb) m4 (Kd.C_below f4 hb) l3 (Kd.C_below g3 hb) l4 (Kd.C_below g4 hb))
  have HXX := Aside0.mk (fun (W : World) (hb : Below w.heap.size w W) => same_calls x x W A3 c3 A4 c4 A3 c3 A4 c4 l3 (Kd.C_below g3 hb) l4 (Kd.C_below g4 hb) l3 (Kd.C_below g3 hb) l4 (Kd.C_below g4 hb))
  have HR := Aside0.mk (fun (W : World) (hb : Below w.heap.size w W) => rsame_calls x y W A3 c3 A4 c4 B3 d3 B4 d4 l3 (Kd.C_below g3 hb) l4 (Kd.C_below g4 hb) m3 (Kd.C_below f3 hb) m4 (Kd.C_below f4 hb))
  clear l3 g3 l4 g4 m3 f3 m4 f4
  have H2 := Aside0.mk (fun o o' => below_alloc (below_alloc (Below.refl w.heap.size w) o) o')
  have HS0 := Aside0.mk (S2.start w (.int .i64 x.f0) (.int .i64 x.f1) (.string x.f2) (.slice A3 x.f3.length c3) (.slice A4 x.f4.length c4) (.int .i64 y.f0) (.int .i64 y.f1) (.string y.f2) (.slice B3 y.f3.length d3) (.slice B4 y.f4.length d4) 26 26)
  obtain ⟨b, hb⟩ : ∃ b, eqB x y = b := ⟨_, rfl⟩
  have HBV := Aside0.mk hb
  have HBW := Aside0.mk (show eqB y x = b from by rw [eqB_comm]; exact hb)
  clear hb
  go_enter Try.func7, Try.ntmps7
  go_wp2_with (fail)
  refine (HM.out _ (H2.out _ _)).mono ?_
  rintro e w1 ⟨⟨r, rfl⟩, hb1⟩
  have HS := Aside0.mk (HS0.out.call hb1)
  have HK := HS.out
  obtain ⟨k0, k1, k2, k3, k4, k5, k6, k7, k8, k9, _, hz⟩ := HK
  clear hb1
  rcases Int.lt_or_le 1500 r with hr | hr
  · have hr' : r > 1500 := hr
    go_wp2_with (go_at_call 25; refine (awake_calls _).mono ?_; rintro e w2 ⟨rfl, hb2⟩)
    go_ret
    exact ⟨rfl, (HS.out.call hb2).low⟩
  · have hr' : ¬ r > 1500 := by omega
    go_wp2_with (fail)
    refine (HN.out _ HS.out.low).mono ?_
    rintro e w2 ⟨⟨q, rfl⟩, hb2⟩
    have HS' := Aside0.mk (HS.out.call hb2)
    clear HS hb2 k0 k1 k2 k3 k4 k5 k6 k7 k8 k9 hz
    have HS := HS'
    clear HS'
    have HK := HS.out
    obtain ⟨k0, k1, k2, k3, k4, k5, k6, k7, k8, k9, _, hz⟩ := HK
    rcases Int.lt_or_le 1500 q with hq | hq
    · have hq' : q > 1500 := hq
      go_wp2_with (go_at_call 25; refine (awake_calls _).mono ?_; rintro e w3 ⟨rfl, hb3⟩)
      go_ret
      exact ⟨rfl, (HS.out.call hb3).low⟩
    · have hq' : ¬ q > 1500 := by omega
      go_wp2_with (fail)
      have HS' := Aside0.mk HS.out.drew
      clear HS k0 k1 k2 k3 k4 k5 k6 k7 k8 k9 hz
      have HS := HS'
      clear HS'
      cases b with
      | true =>
        go_region_held3 (fun W' => W'.cell? ⟨w.heap.size, 0, none⟩ = some (.int .i64 x.f0) ∧ W'.cell? ⟨w.heap.size, 1, none⟩ = some (.int .i64 x.f1) ∧ W'.cell? ⟨w.heap.size, 2, none⟩ = some (.string x.f2) ∧ W'.cell? ⟨w.heap.size, 3, none⟩ = some (.slice A3 x.f3.length c3) ∧ W'.cell? ⟨w.heap.size, 4, none⟩ = some (.slice A4 x.f4.length c4) ∧ W'.cell? ⟨w.heap.size + 1, 0, none⟩ = some (.int .i64 y.f0) ∧ W'.cell? ⟨w.heap.size + 1, 1, none⟩ = some (.int .i64 y.f1) ∧ W'.cell? ⟨w.heap.size + 1, 2, none⟩ = some (.string y.f2) ∧ W'.cell? ⟨w.heap.size + 1, 3, none⟩ = some (.slice B3 y.f3.length d3) ∧ W'.cell? ⟨w.heap.size + 1, 4, none⟩ = some (.slice B4 y.f4.length d4) ∧ Below w.heap.size w W' ∧ w.heap.size + 1 < W'.heap.size) (first | (with_reducible exact HS.out) | fail) (first | (go_at_call 37; with_reducible refine (HXY.out _ HS.out.low).mono ?_; rw [HBV.out]; rintro e wa ⟨rfl, hba⟩; have HS' := Aside0.mk (HS.out.call hba); clear HS hba; have HS := HS'; clear HS') | (go_at_call 38; with_reducible refine (HR.out _ HS.out.low).mono ?_; rw [HBV.out]; rintro e wa ⟨rfl, hba⟩; have HS' := Aside0.mk (HS.out.call hba); clear HS hba; have HS := HS'; clear HS') | (go_at_call 37; with_reducible refine (HXX.out _ HS.out.low).mono ?_; rw [eqB_self]; rintro e wa ⟨rfl, hba⟩; have HS' := Aside0.mk (HS.out.call hba); clear HS hba; have HS := HS'; clear HS') | (go_at_call 37; with_reducible refine (HYX.out _ HS.out.low).mono ?_; rw [HBW.out]; rintro e wa ⟨rfl, hba⟩; have HS' := Aside0.mk (HS.out.call hba); clear HS hba; have HS := HS'; clear HS') | (go_at_call 25; with_reducible refine (awake_calls _).mono ?_; rintro e wa ⟨rfl, hba⟩; have HS' := Aside0.mk (HS.out.call hba); clear HS hba; have HS := HS'; clear HS'))
        go_wp2
        go_ret
        exact ⟨rfl, HS.out.low⟩
      | false =>
        go_region_held3 (fun W' => W'.cell? ⟨w.heap.size, 0, none⟩ = some (.int .i64 x.f0) ∧ W'.cell? ⟨w.heap.size, 1, none⟩ = some (.int .i64 x.f1) ∧ W'.cell? ⟨w.heap.size, 2, none⟩ = some (.string x.f2) ∧ W'.cell? ⟨w.heap.size, 3, none⟩ = some (.slice A3 x.f3.length c3) ∧ W'.cell? ⟨w.heap.size, 4, none⟩ = some (.slice A4 x.f4.length c4) ∧ W'.cell? ⟨w.heap.size + 1, 0, none⟩ = some (.int .i64 y.f0) ∧ W'.cell? ⟨w.heap.size + 1, 1, none⟩ = some (.int .i64 y.f1) ∧ W'.cell? ⟨w.heap.size + 1, 2, none⟩ = some (.string y.f2) ∧ W'.cell? ⟨w.heap.size + 1, 3, none⟩ = some (.slice B3 y.f3.length d3) ∧ W'.cell? ⟨w.heap.size + 1, 4, none⟩ = some (.slice B4 y.f4.length d4) ∧ Below w.heap.size w W' ∧ w.heap.size + 1 < W'.heap.size) (first | (with_reducible exact HS.out) | fail) (first | (go_at_call 37; with_reducible refine (HXY.out _ HS.out.low).mono ?_; rw [HBV.out]; rintro e wa ⟨rfl, hba⟩; have HS' := Aside0.mk (HS.out.call hba); clear HS hba; have HS := HS'; clear HS') | (go_at_call 38; with_reducible refine (HR.out _ HS.out.low).mono ?_; rw [HBV.out]; rintro e wa ⟨rfl, hba⟩; have HS' := Aside0.mk (HS.out.call hba); clear HS hba; have HS := HS'; clear HS') | (go_at_call 37; with_reducible refine (HXX.out _ HS.out.low).mono ?_; rw [eqB_self]; rintro e wa ⟨rfl, hba⟩; have HS' := Aside0.mk (HS.out.call hba); clear HS hba; have HS := HS'; clear HS') | (go_at_call 37; with_reducible refine (HYX.out _ HS.out.low).mono ?_; rw [HBW.out]; rintro e wa ⟨rfl, hba⟩; have HS' := Aside0.mk (HS.out.call hba); clear HS hba; have HS := HS'; clear HS') | (go_at_call 25; with_reducible refine (awake_calls _).mono ?_; rintro e wa ⟨rfl, hba⟩; have HS' := Aside0.mk (HS.out.call hba); clear HS hba; have HS := HS'; clear HS'))
        go_wp2
        go_ret
        exact ⟨rfl, HS.out.low⟩
end Go.Proofs.Ytkeeknlfommieaa.PF
