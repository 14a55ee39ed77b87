/- slices.Equal over texts, slices.EqualFunc over types, ty.Same: whether two types are one. -/
import Derived.Test.YtkeeknlfommieaaB4
import Derived.Test.YtkeeknlfommieaaT2
import Derived.Test.YtkeeknlfommieaaPFx52
namespace Go.Proofs.Ytkeeknlfommieaa.PF
open Go.RowKit Go.Shelf Go.Proofs.YtkeeknlfommieaaW.PrintWords Go.Proofs.YtkeeknlfommieaaW.PrintLast Go.Proofs.YtkeeknlfommieaaW.PrintMore

theorem rdS_getElem (xs : List ByteArray) (i : Nat) (h : i < xs.length) : rdOf ByteArray.empty xs (i : Int) = xs[i] := by
  simp [rdOf, List.getD_eq_getElem?_getD, List.getElem?_eq_getElem h]
theorem equalS_l0 (l m : List ByteArray) (h : l.length = m.length) (hl : l.length ≤ 9223372036854775807) : ∀ (d i k : Nat), i + d = l.length → d < k → slices_Equal_string_string.l0 k l m (l.length : Int) i = some (eqB (l.drop i) (m.drop i)) := by
  intro d
  induction d with
  | zero =>
    intro i k hi hk
    obtain ⟨k, rfl⟩ : ∃ q, k = q + 1 := ⟨k - 1, by omega⟩
    rw [slices_Equal_string_string.l0, if_neg (by omega), List.drop_eq_nil_of_le (by omega), List.drop_eq_nil_of_le (by omega), eqB_self]
  | succ d ih =>
    intro i k hi hk
    obtain ⟨k, rfl⟩ : ∃ q, k = q + 1 := ⟨k - 1, by omega⟩
    rw [slices_Equal_string_string.l0, if_pos (by omega), if_pos (by omega), if_pos (by omega), if_pos (by omega), rdS_getElem l i (by omega), rdS_getElem m i (by omega), drop_head l i (by omega), drop_head m i (by omega)]
    by_cases e : l[i] = m[i]
    · rw [if_pos (by rw [e]), show wrap64 ((i : Int) + 1) = ((i + 1 : Nat) : Int) from by unfold wrap64; omega, ih (i + 1) k (by omega) (by omega)]
      exact congrArg some (eqB_congr ⟨fun h2 => by rw [e, h2], fun h2 => (List.cons.inj h2).2⟩)
    · rw [if_neg (fun h => e (bytes_ext h))]
      exact congrArg some (eqB_false (fun h2 => e (List.cons.inj h2).1)).symm
theorem equalS_calls (A0 : Option Addr) (c0 : Nat) (l0 : List ByteArray) (A1 : Option Addr) (c1 : Nat) (l1 : List ByteArray) (w : World) (hr0 : Kd.C Kd.string w A0 l0.length l0) (hc0 : l0.length ≤ c0) (hr1 : Kd.C Kd.string w A1 l1.length l1) (hc1 : l1.length ≤ c1) :
    Calls Try.prog 72 #[.slice A0 l0.length c0, .slice A1 l1.length c1] w fun e w' => e = .returned (.bool (eqB l0 l1)) ∧ Below w.heap.size w w' := by
  have hf : slices_Equal_string_string.f (l0.length + 1) l0 l1 = some (eqB l0 l1) := by
    unfold slices_Equal_string_string.f
    by_cases h : l0.length = l1.length
    · rw [if_pos (by omega)]
      simpa using equalS_l0 l0 l1 h hr0.2.1 l0.length 0 (l0.length + 1) (by omega) (by omega)
    · rw [if_neg (by omega), eqB_false (fun e => h (by rw [e]))]
  exact (slices_Equal_string_string.calls _ A0 c0 l0 A1 c1 l1 _ w hr0 hc0 hr1 hc1 hf).mono fun e w' ⟨he, hd⟩ => ⟨he, hd.below⟩

/-- A function value that answers whether two types are one. -/
def SameAt (g : FuncId) (xs : List S26) (w : World) : Prop :=
  ∀ x ∈ xs, ∀ (y : S26) (W : World) (A3 : Option Addr) (c3 : Nat) (A4 : Option Addr) (c4 : Nat) (B3 : Option Addr) (d3 : Nat) (B4 : Option Addr) (d4 : Nat), Below w.heap.size w W → x.f3.length ≤ c3 → Kd.string.C W A3 x.f3.length x.f3 → x.f4.length ≤ c4 → k26.C W A4 x.f4.length x.f4 → y.f3.length ≤ d3 → Kd.string.C W B3 y.f3.length y.f3 → y.f4.length ≤ d4 → k26.C W B4 y.f4.length y.f4 →
    Calls Try.prog g #[.agg #[.int .i64 x.f0, .int .i64 x.f1, .string x.f2, .slice A3 x.f3.length c3, .slice A4 x.f4.length c4], .agg #[.int .i64 y.f0, .int .i64 y.f1, .string y.f2, .slice B3 y.f3.length d3, .slice B4 y.f4.length d4]] W fun e W' => e = .returned (.bool (eqB x y)) ∧ Below W.heap.size W W'

set_option maxRecDepth 100000 in
set_option maxHeartbeats 1000000 in
theorem equalFunc_calls (g : FuncId) (xs ys : List S26) (A : Option Addr) (c : Nat) (B : Option Addr) (d : Nat) (w : World) (hx : k26.C w A xs.length xs) (hy : k26.C w B ys.length ys) (eg : ∀ args w, (callFunc g args).run Try.prog w = .ok (.enter g args) w) (hp : SameAt g xs w) :
    Calls Try.prog 73 #[.slice A xs.length c, .slice B ys.length d, .func (.func g) #[] #[]] w fun e w' => e = .returned (.bool (eqB xs ys)) ∧ Below w.heap.size w w' := by
  have HX := Aside0.mk hx
  have HY := Aside0.mk hy
  have HP := Aside0.mk hp
  have hlen := hx.2.1
  clear hx hy hp
  by_cases hl : xs.length = ys.length
  · have hl' : (((xs.length : Int)) != (ys.length : Int)) = false := by rw [bne_eq_false_iff_eq]; omega
    have HL := Aside0.mk hl
    clear hl
    go_enter Try.func73, Try.ntmps73
    go_wp2_with fail
    go_loopg [17] xs.length (fun gk i wr => ∃ k : Nat, i = .int .i64 k ∧ Aside0 (gk + k = xs.length) ∧ Aside0 (xs.take k = ys.take k) ∧ Aside0 (Below w.heap.size w wr))
    case atStart => exact ⟨0, rfl, ⟨rfl⟩, ⟨rfl⟩, ⟨Below.refl _ _⟩⟩
    case round =>
      obtain ⟨k, rfl, HK, HI, HB⟩ := hrel
      by_cases hlt : k < xs.length
      · have hltZ : ((k : Int) < (xs.length : Int)) := by omega
        have hlt2 : k < ys.length := by have := HL.out; omega
        have hltZ2 : ((k : Int) < (ys.length : Int)) := by omega
        obtain ⟨ad, A3, c3, A4, c4, e, h0, h1, h2, h3, h4, l3, g3, l4, g4⟩ := el26 (Kd.C_below HX.out HB.out) k hlt
        cases e
        obtain ⟨bd, B3, d3, B4, d4, e, q0, q1, q2, q3, q4, m3, f3, m4, f4⟩ := el26 (Kd.C_below HY.out HB.out) k hlt2
        cases e
        have HLT := Aside0.mk (And.intro hlt hlt2)
        generalize hxe : xs[k] = x at *
        generalize hye : ys[k] = y at *
        have al : ∀ (o : Obj) (a : Addr) (u : Value), wr.cell? a = some u → (wr.alloc o).cell? a = some u := fun o a u hu => pw_cell_below (below_alloc (Below.refl _ _) o) hu
        have q0' := fun o => al o _ _ q0
        have q1' := fun o => al o _ _ q1
        have q2' := fun o => al o _ _ q2
        have q3' := fun o => al o _ _ q3
        have q4' := fun o => al o _ _ q4
        have HIX := Aside0.mk (show ∀ b, eqB x y = b → (b = true → xs.take (k + 1) = ys.take (k + 1)) ∧ (b = false → eqB xs ys = false) from by
          intro b hb
          refine ⟨fun e => ?_, fun e => eqB_false (fun e2 => ?_)⟩
          · subst e
            have hxy := eqB_iff.1 hb
            rw [List.take_succ_eq_append_getElem hlt, List.take_succ_eq_append_getElem hlt2, HI.out, hxe, hye, hxy]
          · subst e
            have : x = y := by rw [← hxe, ← hye]; simp only [e2]
            rw [this, eqB_self] at hb
            cases hb)
        have HLT := Aside0.mk hlt
        have HC := Aside0.mk (HP.out x (by rw [← hxe]; exact List.getElem_mem hlt) y ((wr.alloc (.cells #[.int .i64 x.f0, .int .i64 x.f1, .string x.f2, .slice A3 x.f3.length c3, .slice A4 x.f4.length c4] 26)).alloc (.cells #[.int .i64 y.f0, .int .i64 y.f1, .string y.f2, .slice B3 y.f3.length d3, .slice B4 y.f4.length d4] 26)) A3 c3 A4 c4 B3 d3 B4 d4 (HB.out.trans ((below_alloc (below_alloc (Below.refl _ _) _) _).mono HB.out.size)) l3 (Kd.C_below g3 (below_alloc (below_alloc (Below.refl _ _) _) _)) l4 (Kd.C_below g4 (below_alloc (below_alloc (Below.refl _ _) _) _)) m3 (Kd.C_below f3 (below_alloc (below_alloc (Below.refl _ _) _) _)) m4 (Kd.C_below f4 (below_alloc (below_alloc (Below.refl _ _) _) _)))
        clear hxe hye al l3 g3 l4 g4 m3 f3 m4 f4 hlt2 q0 q1 q2 q3 q4
        obtain ⟨b, hb⟩ : ∃ b, eqB x y = b := ⟨_, rfl⟩
        have HBV := Aside0.mk hb
        clear hb
        cases b with
        | true =>
          go_wp2_with (go_at_fn g; refine HC.out.mono ?_; rw [HBV.out]; rintro e w' ⟨rfl, hb'⟩)
          go_roundg (gk - 1)
          case measure => have := HK.out; have := HLT.out; omega
          case rel => exact ⟨k + 1, by go_num, ⟨by have := HK.out; have := HLT.out; omega⟩, ⟨(HIX.out _ HBV.out).1 rfl⟩, ⟨HB.out.trans (((below_alloc (below_alloc (Below.refl _ _) _) _).trans (hb'.mono (by simp; omega))).mono HB.out.size)⟩⟩
        | false =>
          go_wp2_with (go_at_fn g; refine HC.out.mono ?_; rw [HBV.out]; rintro e w' ⟨rfl, hb'⟩)
          go_ret
          exact ⟨ret_bool ((HIX.out _ HBV.out).2 rfl).symm, HB.out.trans (((below_alloc (below_alloc (Below.refl _ _) _) _).trans (hb'.mono (by simp; omega))).mono HB.out.size)⟩
      · have hltz : ¬ (k : Int) < (xs.length : Int) := by omega
        have HX2 := Aside0.mk (show eqB xs ys = true from eqB_iff.2 (by
          have h1 : k = xs.length := by have := HK.out; omega
          have h2 := HI.out
          rw [h1, List.take_length, HL.out, List.take_length] at h2
          exact h2))
        go_wp2
        go_ret
        exact ⟨ret_bool HX2.out.symm, HB.out⟩
  · have hl' : (((xs.length : Int)) != (ys.length : Int)) = true := by rw [bne_iff_ne]; omega
    have HX2 := Aside0.mk (show eqB xs ys = false from eqB_false (fun e => hl (by rw [e])))
    clear hl
    go_enter Try.func73, Try.ntmps73
    go_wp2
    go_ret
    exact ⟨ret_bool HX2.out.symm, Below.refl _ _⟩

set_option maxRecDepth 100000 in
set_option maxHeartbeats 2000000 in
theorem same_calls (x : S26) : ∀ (y : S26) (w : World) (A3 : Option Addr) (c3 : Nat) (A4 : Option Addr) (c4 : Nat) (B3 : Option Addr) (d3 : Nat) (B4 : Option Addr) (d4 : Nat) (_ : x.f3.length ≤ c3) (_ : Kd.string.C w A3 x.f3.length x.f3) (_ : x.f4.length ≤ c4) (_ : k26.C w A4 x.f4.length x.f4) (_ : y.f3.length ≤ d3) (_ : Kd.string.C w B3 y.f3.length y.f3) (_ : y.f4.length ≤ d4) (_ : k26.C w B4 y.f4.length y.f4),
    Calls Try.prog 37 #[.agg #[.int .i64 x.f0, .int .i64 x.f1, .string x.f2, .slice A3 x.f3.length c3, .slice A4 x.f4.length c4], .agg #[.int .i64 y.f0, .int .i64 y.f1, .string y.f2, .slice B3 y.f3.length d3, .slice B4 y.f4.length d4]] w fun e w' => e = .returned (.bool (eqB x y)) ∧ Below w.heap.size w w' := by
  induction x using S26.ind with
  | h k n nm ls ar ih =>
  intro y w A3 c3 A4 c4 B3 d3 B4 d4 l3 g3 l4 g4 m3 f3 m4 f4
  obtain ⟨k', n', nm', ls', ar'⟩ := y
  dsimp only at l3 g3 l4 g4 m3 f3 m4 f4 ⊢
  have HI := Aside0.mk (s26_iff ⟨k, n, nm, ls, ar⟩ ⟨k', n', nm', ls', ar'⟩)
  have HE := Aside0.mk (fun (W : World) (hb : Below w.heap.size w W) => equalS_calls A3 c3 ls B3 d3 ls' W (Kd.C_below g3 hb) l3 (Kd.C_below f3 hb) m3)
  have HF := Aside0.mk (fun (W : World) (hb : Below w.heap.size w W) => equalFunc_calls 37 ar ar' A4 c4 B4 d4 W (Kd.C_below g4 hb) (Kd.C_below f4 hb) (enters_of Try.func37 (by kernel_rfl) rfl)
    (fun x hx y W' a3 e3 a4 e4 b3 o3 b4 o4 hb' p1 p2 p3 p4 p5 p6 p7 p8 => ih x hx y W' a3 e3 a4 e4 b3 o3 b4 o4 p1 p2 p3 p4 p5 p6 p7 p8))
  clear ih l3 g3 l4 g4 m3 f3 m4 f4
  have H2 := Aside0.mk (fun o o' => below_alloc (below_alloc (Below.refl w.heap.size w) o) o')
  by_cases h0 : k = k'
  · have h0' : (k == k') = true := beq_iff_eq.2 h0
    have H0 := Aside0.mk h0
    clear h0
    by_cases h1 : n = n'
    · have h1' : (n == n') = true := beq_iff_eq.2 h1
      have H1 := Aside0.mk h1
      clear h1
      by_cases h2 : nm = nm'
      · have h2' : (nm.toList == nm'.toList) = true := by rw [h2]; simp
        have H3 := Aside0.mk h2
        clear h2
        have HXY := Aside0.mk (show ∀ b1 b2, eqB ls ls' = b1 → eqB ar ar' = b2 → eqB (⟨k, n, nm, ls, ar⟩ : S26) ⟨k', n', nm', ls', ar'⟩ = (b1 && b2) from by
          rintro b1 b2 rfl rfl
          rw [Bool.eq_iff_iff, Bool.and_eq_true, eqB_iff, eqB_iff, eqB_iff, HI.out]
          exact ⟨fun e => e.2.2.2, fun e => ⟨H0.out, H1.out, H3.out, e⟩⟩)
        obtain ⟨b1, hb1⟩ : ∃ b, eqB ls ls' = b := ⟨_, rfl⟩
        obtain ⟨b2, hb2⟩ : ∃ b, eqB ar ar' = b := ⟨_, rfl⟩
        have HB1 := Aside0.mk hb1
        have HB2 := Aside0.mk hb2
        clear hb1 hb2
        cases b1 with
        | true =>
          go_enter Try.func37, Try.ntmps37
          go_wp2_with (first | (go_at_call 72; refine (HE.out _ (H2.out _ _)).mono ?_; rw [HB1.out]; rintro e w1 ⟨rfl, hbw⟩; obtain ⟨hcell, hfroz⟩ := bcell hbw; have HW1 := Aside0.mk hbw; have hz1 : w.heap.size + 1 < w1.heap.size := (by have h_ := hbw.size; simp only [World.size_alloc] at h_; omega); have hz0 : w.heap.size < w1.heap.size := Nat.lt_of_succ_lt hz1; clear hbw) | (go_at_call 73; refine (HF.out _ ((H2.out _ _).trans (HW1.out.mono (by simp; omega)))).mono ?_; rw [HB2.out]; rintro e w2 ⟨rfl, hbw2⟩))
          go_ret
          exact ⟨ret_bool (HXY.out _ _ HB1.out HB2.out).symm, ((H2.out _ _).trans (HW1.out.mono (by simp; omega))).trans (hbw2.mono (by omega))⟩
        | false =>
          go_enter Try.func37, Try.ntmps37
          go_wp2_with (go_at_call 72; refine (HE.out _ (H2.out _ _)).mono ?_; rw [HB1.out]; rintro e w1 ⟨rfl, hbw⟩)
          go_ret
          exact ⟨ret_bool (HXY.out _ _ HB1.out HB2.out).symm, (H2.out _ _).trans (hbw.mono (by simp; omega))⟩
      · have h2' : (nm.toList == nm'.toList) = false := beq_eq_false_iff_ne.2 (fun e => h2 (bytes_ext e))
        have HX := Aside0.mk (show eqB (⟨k, n, nm, ls, ar⟩ : S26) ⟨k', n', nm', ls', ar'⟩ = false from eqB_false (fun e => h2 (HI.out.1 e).2.2.1))
        clear h2
        go_enter Try.func37, Try.ntmps37
        go_wp2
        go_ret
        exact ⟨ret_bool HX.out.symm, H2.out _ _⟩
    · have h1' : (n == n') = false := beq_eq_false_iff_ne.2 h1
      have HX := Aside0.mk (show eqB (⟨k, n, nm, ls, ar⟩ : S26) ⟨k', n', nm', ls', ar'⟩ = false from eqB_false (fun e => h1 (HI.out.1 e).2.1))
      clear h1
      go_enter Try.func37, Try.ntmps37
      go_wp2
      go_ret
      exact ⟨ret_bool HX.out.symm, H2.out _ _⟩
  · have h0' : (k == k') = false := beq_eq_false_iff_ne.2 h0
    have HX := Aside0.mk (show eqB (⟨k, n, nm, ls, ar⟩ : S26) ⟨k', n', nm', ls', ar'⟩ = false from eqB_false (fun e => h0 (HI.out.1 e).1))
    clear h0
    go_enter Try.func37, Try.ntmps37
    go_wp2
    go_ret
    exact ⟨ret_bool HX.out.symm, H2.out _ _⟩
end Go.Proofs.Ytkeeknlfommieaa.PF
