/- The reference's Same, of lists and of types. -/
import Derived.Test.YtkeeknlfommieaaB8
import Derived.Test.YtkeeknlfommieaaPFx68
import Derived.StillTailTactics
namespace Go.Proofs.Ytkeeknlfommieaa.PF
open Go.RowKit Go.Shelf Go.Proofs.YtkeeknlfommieaaW.PrintWords Go.Proofs.YtkeeknlfommieaaW.PrintLast Go.Proofs.YtkeeknlfommieaaW.PrintMore

theorem rsame_l0 (l m : List ByteArray) (h : l.length = m.length) (hl : l.length ≤ 9223372036854775807) : ∀ (d i k : Nat), i + d = l.length → 2 * d + 1 < k → limbeckref01_Same.l0 k l m i = some (eqB (l.drop i) (m.drop i)) := by
  intro d
  induction d with
  | zero =>
    intro i k hi hk
    obtain ⟨k, rfl⟩ : ∃ q, k = q + 1 + 1 := ⟨k - 2, by omega⟩
    rw [limbeckref01_Same.l0, if_neg (by omega), List.drop_eq_nil_of_le (by omega), List.drop_eq_nil_of_le (by omega), eqB_self, limbeckref01_Same.j1]
    rfl
  | succ d ih =>
    intro i k hi hk
    obtain ⟨k, rfl⟩ : ∃ q, k = q + 1 + 1 := ⟨k - 2, by omega⟩
    rw [limbeckref01_Same.l0, if_pos (by omega), limbeckref01_Same.j1, if_pos (by simp; omega), if_pos (by omega), if_pos (by omega), if_pos (by omega), rdS_getElem l i (by omega), rdS_getElem m i (by omega), drop_head l i (by omega), drop_head m i (by omega)]
    by_cases e : l[i] = m[i]
    · rw [if_pos (by rw [e]), show wrap64 ((i : Int) + 1) = ((i + 1 : Nat) : Int) from by unfold wrap64; omega, ih (i + 1) k (by omega) (by omega)]
      exact congrArg some (eqB_congr ⟨fun h2 => by rw [e, h2], fun h2 => (List.cons.inj h2).2⟩)
    · rw [if_neg (fun h => e (bytes_ext h))]
      exact congrArg some (eqB_false (fun h2 => e (List.cons.inj h2).1)).symm
theorem rsameS_calls (A0 : Option Addr) (c0 : Nat) (l0 : List ByteArray) (A1 : Option Addr) (c1 : Nat) (l1 : List ByteArray) (w : World) (hr0 : Kd.C Kd.string w A0 l0.length l0) (hc0 : l0.length ≤ c0) (hr1 : Kd.C Kd.string w A1 l1.length l1) (hc1 : l1.length ≤ c1) :
    Calls Try.prog 32 #[.slice A0 l0.length c0, .slice A1 l1.length c1] w fun e w' => e = .returned (.bool (eqB l0 l1)) ∧ Below w.heap.size w w' := by
  have hf : limbeckref01_Same.f (2 * l0.length + 2) l0 l1 = some (eqB l0 l1) := by
    unfold limbeckref01_Same.f
    by_cases h : l0.length = l1.length
    · rw [if_pos (by omega)]
      simpa using rsame_l0 l0 l1 h hr0.2.1 l0.length 0 (2 * l0.length + 2) (by omega) (by omega)
    · rw [if_neg (by omega), eqB_false (fun e => h (by rw [e]))]
  exact (limbeckref01_Same.calls _ A0 c0 l0 A1 c1 l1 _ w hr0 hc0 hr1 hc1 hf).mono fun e w' ⟨he, hd⟩ => ⟨he, hd.below⟩

def RSame (x : S26) : Prop := ∀ (y : S26) (w : World) (A3 : Option Addr) (c3 : Nat) (A4 : Option Addr) (c4 : Nat) (B3 : Option Addr) (d3 : Nat) (B4 : Option Addr) (d4 : Nat) (_ : x.f3.length ≤ c3) (_ : Kd.string.C w A3 x.f3.length x.f3) (_ : x.f4.length ≤ c4) (_ : k26.C w A4 x.f4.length x.f4) (_ : y.f3.length ≤ d3) (_ : Kd.string.C w B3 y.f3.length y.f3) (_ : y.f4.length ≤ d4) (_ : k26.C w B4 y.f4.length y.f4),
    Calls Try.prog 38 #[.agg #[.int .i64 x.f0, .int .i64 x.f1, .string x.f2, .slice A3 x.f3.length c3, .slice A4 x.f4.length c4], .agg #[.int .i64 y.f0, .int .i64 y.f1, .string y.f2, .slice B3 y.f3.length d3, .slice B4 y.f4.length d4]] w fun e w' => e = .returned (.bool (eqB x y)) ∧ Below w.heap.size w w'

set_option maxRecDepth 100000 in
set_option maxHeartbeats 2000000 in
theorem rsame_calls (x : S26) : RSame x := by
  induction x using S26.ind with
  | h k n nm ls ar ih =>
  intro y w A3 c3 A4 c4 B3 d3 B4 d4 l3 g3 l4 g4 m3 f3 m4 f4
  obtain ⟨k', n', nm', ls', ar'⟩ := y
  dsimp only at l3 g3 l4 g4 m3 f3 m4 f4 ⊢
  have HI := Aside0.mk (s26_iff ⟨k, n, nm, ls, ar⟩ ⟨k', n', nm', ls', ar'⟩)
  have HE := Aside0.mk (fun (W : World) (hb : Below w.heap.size w W) => rsameS_calls A3 c3 ls B3 d3 ls' W (Kd.C_below g3 hb) l3 (Kd.C_below f3 hb) m3)
  have HX := Aside0.mk g4
  have HY := Aside0.mk f4
  have HIH := Aside0.mk ih
  have hlx := g4.2.1
  have hly := f4.2.1
  clear ih l3 g3 l4 g4 m3 f3 m4 f4
  have H2 := Aside0.mk (fun o o' => below_alloc (below_alloc (Below.refl w.heap.size w) o) o')
  by_cases h0 : k = k' ∧ n = n' ∧ nm = nm'
  · obtain ⟨h0, h1, h2⟩ := h0
    have h0' : (k != k') = false := bne_eq_false_iff_eq.2 h0
    have h1' : (n != n') = false := bne_eq_false_iff_eq.2 h1
    have h2' : (nm.toList == nm'.toList) = true := by rw [h2]; simp
    have H0 := Aside0.mk (And.intro h0 (And.intro h1 h2))
    clear h0 h1 h2
    have HXY := Aside0.mk (show ∀ b1 b2, eqB ls ls' = b1 → eqB ar ar' = b2 → eqB (⟨k, n, nm, ls, ar⟩ : S26) ⟨k', n', nm', ls', ar'⟩ = (b1 && b2) from by
      rintro b1 b2 rfl rfl
      rw [Bool.eq_iff_iff, Bool.and_eq_true, eqB_iff, eqB_iff, eqB_iff, HI.out]
      exact ⟨fun e => e.2.2.2, fun e => ⟨H0.out.1, H0.out.2.1, H0.out.2.2, e⟩⟩)
    obtain ⟨b1, hb1⟩ : ∃ b, eqB ls ls' = b := ⟨_, rfl⟩
    have HB1 := Aside0.mk hb1
    clear hb1
    cases b1 with
    | true =>
      by_cases hl : ar.length = ar'.length
      · have hl' : (((ar.length : Int)) != (ar'.length : Int)) = false := by rw [bne_eq_false_iff_eq]; omega
        have HL := Aside0.mk hl
        clear hl
        go_enter Try.func38, Try.ntmps38
        go_wp2_with (go_at_call 32; refine (HE.out _ (H2.out _ _)).mono ?_; rw [HB1.out]; rintro e w1 ⟨rfl, hbw⟩; obtain ⟨hcell, hfroz⟩ := bcell hbw; have HW1 := Aside0.mk hbw; have hz1 : w.heap.size + 1 < w1.heap.size := (by have h_ := hbw.size; simp only [World.size_alloc] at h_; omega); have hz0 : w.heap.size < w1.heap.size := Nat.lt_of_succ_lt hz1; clear hbw)
        go_loopg [5] ar.length (fun gk i wr => ∃ q : Nat, i = .int .i64 q ∧ Aside0 (gk + q = ar.length) ∧ Aside0 (ar.take q = ar'.take q) ∧ Aside0 (Below w1.heap.size w1 wr))
        case atStart => exact ⟨0, rfl, ⟨rfl⟩, ⟨rfl⟩, ⟨Below.refl _ _⟩⟩
        case round =>
          obtain ⟨q, rfl, HK, HQ, HB⟩ := hrel
          obtain ⟨hcellb, hfrozb⟩ := bcell HB.out
          have hz2 : w1.heap.size ≤ wr.heap.size := HB.out.size
          have hz3 : w.heap.size + 1 < wr.heap.size := Nat.lt_of_lt_of_le hz1 hz2
          have hz4 : w.heap.size < wr.heap.size := Nat.lt_of_succ_lt hz3
          have HBW := Aside0.mk (((H2.out _ _).trans (HW1.out.mono (by simp; omega))).trans (HB.out.mono (by omega)))
          by_cases hlt : q < ar.length
          · have hltZ : ((q : Int) < (ar.length : Int)) := by omega
            have hlt2 : q < ar'.length := by have := HL.out; omega
            have hltZ2 : ((q : Int) < (ar'.length : Int)) := by omega
            obtain ⟨ad, E3, e3, E4, e4, e, h0, h1, h2, h3, h4, l3, g3, l4, g4⟩ := el26 (Kd.C_below HX.out HBW.out) q hlt
            cases e
            obtain ⟨bd, F3, o3, F4, o4, e, q0, q1, q2, q3, q4, m3, f3, m4, f4⟩ := el26 (Kd.C_below HY.out HBW.out) q hlt2
            cases e
            have HIX := Aside0.mk (show ∀ b, eqB ar[q] ar'[q] = b → (b = true → ar.take (q + 1) = ar'.take (q + 1)) ∧ (b = false → eqB ar ar' = false) from by
              intro b hb
              refine ⟨fun e => ?_, fun e => eqB_false (fun e2 => ?_)⟩
              · subst e
                rw [List.take_succ_eq_append_getElem hlt, List.take_succ_eq_append_getElem hlt2, HQ.out, eqB_iff.1 hb]
              · subst e
                have : ar[q] = ar'[q] := by simp only [e2]
                rw [this, eqB_self] at hb
                cases hb)
            have HC := Aside0.mk (HIH.out ar[q] (List.getElem_mem hlt) ar'[q] wr.drew E3 e3 E4 e4 F3 o3 F4 o4 l3 (Kd.C_drew g3) l4 (Kd.C_drew g4) m3 (Kd.C_drew f3) m4 (Kd.C_drew f4))
            have HLT := Aside0.mk hlt
            generalize ar[q] = x at *
            generalize ar'[q] = y at *
            clear l3 g3 l4 g4 m3 f3 m4 f4 hlt hlt2
            obtain ⟨b, hb⟩ : ∃ b, eqB x y = b := ⟨_, rfl⟩
            have HBV := Aside0.mk hb
            clear hb
            cases b with
            | true =>
              go_wp2_with fail
              go_still_tail 10, (by kernel_rfl)
              change wpList _ _ _ _ _ wr.drew
              go_wp2_with (go_at_call 38; refine HC.out.mono ?_; rw [HBV.out]; rintro e w' ⟨rfl, hb'⟩)
              go_roundg (gk - 1)
              case measure => have := HK.out; have := HLT.out; omega
              case rel => exact ⟨q + 1, by go_num, ⟨by have := HK.out; have := HLT.out; omega⟩, ⟨(HIX.out _ HBV.out).1 rfl⟩, ⟨HB.out.trans (((below_drew (Below.refl wr.heap.size wr)).trans (show Below wr.heap.size wr.drew w' from hb')).mono (by omega))⟩⟩
            | false =>
              go_wp2_with fail
              go_still_tail 10, (by kernel_rfl)
              change wpList _ _ _ _ _ wr.drew
              go_wp2_with (go_at_call 38; refine HC.out.mono ?_; rw [HBV.out]; rintro e w' ⟨rfl, hb'⟩)
              go_ret
              exact ⟨ret_bool (by rw [HXY.out _ _ HB1.out ((HIX.out _ HBV.out).2 rfl)]; rfl), HBW.out.trans (((below_drew (Below.refl wr.heap.size wr)).trans (show Below wr.heap.size wr.drew w' from hb')).mono (by omega))⟩
          · have hltz : ¬ (q : Int) < (ar.length : Int) := by omega
            have HX2 := Aside0.mk (show eqB ar ar' = true from eqB_iff.2 (by
              have h1 : q = ar.length := by have := HK.out; omega
              have h2 := HQ.out
              rw [h1, List.take_length, HL.out, List.take_length] at h2
              exact h2))
            go_wp2
            go_ret
            exact ⟨ret_bool (by rw [HXY.out _ _ HB1.out HX2.out]; rfl), HBW.out⟩
      · have hl' : (((ar.length : Int)) != (ar'.length : Int)) = true := by rw [bne_iff_ne]; omega
        have HX2 := Aside0.mk (show eqB ar ar' = false from eqB_false (fun e => hl (by rw [e])))
        clear hl
        go_enter Try.func38, Try.ntmps38
        go_wp2_with (go_at_call 32; refine (HE.out _ (H2.out _ _)).mono ?_; rw [HB1.out]; rintro e w1 ⟨rfl, hbw⟩; obtain ⟨hcell, hfroz⟩ := bcell hbw; have HW1 := Aside0.mk hbw; have hz1 : w.heap.size + 1 < w1.heap.size := (by have h_ := hbw.size; simp only [World.size_alloc] at h_; omega); have hz0 : w.heap.size < w1.heap.size := Nat.lt_of_succ_lt hz1; clear hbw)
        go_ret
        exact ⟨ret_bool (by rw [HXY.out _ _ HB1.out HX2.out]; rfl), ((H2.out _ _).trans (HW1.out.mono (by simp; omega)))⟩
    | false =>
      have HX2 := Aside0.mk (HXY.out _ _ HB1.out rfl)
      go_enter Try.func38, Try.ntmps38
      go_wp2_with (go_at_call 32; refine (HE.out _ (H2.out _ _)).mono ?_; rw [HB1.out]; rintro e w1 ⟨rfl, hbw⟩; obtain ⟨hcell, hfroz⟩ := bcell hbw; have HW1 := Aside0.mk hbw; have hz1 : w.heap.size + 1 < w1.heap.size := (by have h_ := hbw.size; simp only [World.size_alloc] at h_; omega); have hz0 : w.heap.size < w1.heap.size := Nat.lt_of_succ_lt hz1; clear hbw)
      go_ret
      exact ⟨ret_bool (by rw [HX2.out]; rfl), ((H2.out _ _).trans (HW1.out.mono (by simp; omega)))⟩
  · have HX2 := Aside0.mk (show eqB (⟨k, n, nm, ls, ar⟩ : S26) ⟨k', n', nm', ls', ar'⟩ = false from eqB_false (fun e => h0 ⟨(HI.out.1 e).1, (HI.out.1 e).2.1, (HI.out.1 e).2.2.1⟩))
    by_cases h0a : k = k'
    · have h0' : (k != k') = false := bne_eq_false_iff_eq.2 h0a
      by_cases h1 : n = n'
      · have h1' : (n != n') = false := bne_eq_false_iff_eq.2 h1
        have h2' : (nm.toList == nm'.toList) = false := beq_eq_false_iff_ne.2 (fun e => h0 ⟨h0a, h1, bytes_ext e⟩)
        clear h0 h0a h1
        go_enter Try.func38, Try.ntmps38
        go_wp2
        go_ret
        exact ⟨ret_bool HX2.out.symm, H2.out _ _⟩
      · have h1' : (n != n') = true := bne_iff_ne.2 h1
        clear h0 h0a h1
        go_enter Try.func38, Try.ntmps38
        go_wp2
        go_ret
        exact ⟨ret_bool HX2.out.symm, H2.out _ _⟩
    · have h0' : (k != k') = true := bne_iff_ne.2 h0a
      clear h0 h0a
      go_enter Try.func38, Try.ntmps38
      go_wp2
      go_ret
      exact ⟨ret_bool HX2.out.symm, H2.out _ _⟩
end Go.Proofs.Ytkeeknlfommieaa.PF
