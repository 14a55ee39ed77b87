/- slices.Equal over texts, slices.EqualFunc over types, ty.Same: whether two types are one. · slices.Index, the reference's Place; ty.Field and the reference's Field; ty.Fun and the reference's Fun. · ty.Nodes, ty.Has, ty.Fits, ty.Vars: ranges over a type's nodes. · ty.Vars: the variables of a type, sorted, each once. · ty.Rec: words. -/
import Derived.Test.YtkeeknlfommieaaMR0
import Derived.Test.YtkeeknlfommieaaPFx52
import Derived.Test.YtkeeknlfommieaaPFx62
import Derived.Test.YtkeeknlfommieaaPFx76
import Derived.Maps.AppendAt
import Derived.Sort.OwnSorted
import Derived.Lib.OwnBridge
import Derived.Shelf.SlSortFuncK.ComposeK
namespace Go.Proofs.Ytkeeknlfommieaa.PF
open Go.RowKit Go.Shelf Go.Proofs.YtkeeknlfommieaaW.PrintWords Go.Proofs.YtkeeknlfommieaaW.PrintLast Go.Proofs.YtkeeknlfommieaaW.PrintMore

theorem rdS_getElem (xs : List ByteArray) (i : Nat) (h : i < xs.length) : rdOf ByteArray.empty xs (i : Int) = xs[i] := by
  simp [rdOf, List.getD_eq_getElem?_getD, List.getElem?_eq_getElem h]
theorem equalS_l0 (l m : List ByteArray) (h : l.length = m.length) (hl : l.length ≤ 9223372036854775807) : ∀ (d i k : Nat), i + d = l.length → d < k → slices_Equal_string_string.l0 k l m (l.length : Int) i = some (eqB (l.drop i) (m.drop i)) := by
  intro d
  induction d with
  | zero =>
    intro i k hi hk
    obtain ⟨k, rfl⟩ : ∃ q, k = q + 1 := ⟨k - 1, by omega⟩
    rw [slices_Equal_string_string.l0, if_neg (by omega), List.drop_eq_nil_of_le (by omega), List.drop_eq_nil_of_le (by omega), eqB_self]
  | succ d ih =>
    intro i k hi hk
    obtain ⟨k, rfl⟩ : ∃ q, k = q + 1 := ⟨k - 1, by omega⟩
    rw [slices_Equal_string_string.l0, if_pos (by omega), if_pos (by omega), if_pos (by omega), if_pos (by omega), rdS_getElem l i (by omega), rdS_getElem m i (by omega), drop_head l i (by omega), drop_head m i (by omega)]
    by_cases e : l[i] = m[i]
    · rw [if_pos (by rw [e]), show wrap64 ((i : Int) + 1) = ((i + 1 : Nat) : Int) from by unfold wrap64; omega, ih (i + 1) k (by omega) (by omega)]
      exact congrArg some (eqB_congr ⟨fun h2 => by rw [e, h2], fun h2 => (List.cons.inj h2).2⟩)
    · rw [if_neg (fun h => e (bytes_ext h))]
      exact congrArg some (eqB_false (fun h2 => e (List.cons.inj h2).1)).symm
theorem equalS_calls (A0 : Option Addr) (c0 : Nat) (l0 : List ByteArray) (A1 : Option Addr) (c1 : Nat) (l1 : List ByteArray) (w : World) (hr0 : Kd.C Kd.string w A0 l0.length l0) (hc0 : l0.length ≤ c0) (hr1 : Kd.C Kd.string w A1 l1.length l1) (hc1 : l1.length ≤ c1) :
    Calls Try.prog 72 #[.slice A0 l0.length c0, .slice A1 l1.length c1] w fun e w' => e = .returned (.bool (eqB l0 l1)) ∧ Below w.heap.size w w' := by
  have hf : slices_Equal_string_string.f (l0.length + 1) l0 l1 = some (eqB l0 l1) := by
    unfold slices_Equal_string_string.f
    by_cases h : l0.length = l1.length
    · rw [if_pos (by omega)]
      simpa using equalS_l0 l0 l1 h hr0.2.1 l0.length 0 (l0.length + 1) (by omega) (by omega)
    · rw [if_neg (by omega), eqB_false (fun e => h (by rw [e]))]
  exact (slices_Equal_string_string.calls _ A0 c0 l0 A1 c1 l1 _ w hr0 hc0 hr1 hc1 hf).mono fun e w' ⟨he, hd⟩ => ⟨he, hd.below⟩

/-- A function value that answers whether two types are one. -/
def SameAt (g : FuncId) (xs : List S26) (w : World) : Prop :=
  ∀ x ∈ xs, ∀ (y : S26) (W : World) (A3 : Option Addr) (c3 : Nat) (A4 : Option Addr) (c4 : Nat) (B3 : Option Addr) (d3 : Nat) (B4 : Option Addr) (d4 : Nat), Below w.heap.size w W → x.f3.length ≤ c3 → Kd.string.C W A3 x.f3.length x.f3 → x.f4.length ≤ c4 → k26.C W A4 x.f4.length x.f4 → y.f3.length ≤ d3 → Kd.string.C W B3 y.f3.length y.f3 → y.f4.length ≤ d4 → k26.C W B4 y.f4.length y.f4 →
    Calls Try.prog g #[.agg #[.int .i64 x.f0, .int .i64 x.f1, .string x.f2, .slice A3 x.f3.length c3, .slice A4 x.f4.length c4], .agg #[.int .i64 y.f0, .int .i64 y.f1, .string y.f2, .slice B3 y.f3.length d3, .slice B4 y.f4.length d4]] W fun e W' => e = .returned (.bool (eqB x y)) ∧ Below W.heap.size W W'

set_option maxRecDepth 100000 in
set_option maxHeartbeats 1000000 in
theorem equalFunc_calls (g : FuncId) (xs ys : List S26) (A : Option Addr) (c : Nat) (B : Option Addr) (d : Nat) (w : World) (hx : k26.C w A xs.length xs) (hy : k26.C w B ys.length ys) (eg : ∀ args w, (callFunc g args).run Try.prog w = .ok (.enter g args) w) (hp : SameAt g xs w) :
    Calls Try.prog 73 #[.slice A xs.length c, .slice B ys.length d, .func (.func g) #[] #[]] w fun e w' => e = .returned (.bool (eqB xs ys)) ∧ Below w.heap.size w w' := by
  have HX := Aside0.mk hx
  have HY := Aside0.mk hy
  have HP := Aside0.mk hp
  have hlen := hx.2.1
  clear hx hy hp
  by_cases hl : xs.length = ys.length
  · have hl' : (((xs.length : Int)) != (ys.length : Int)) = false := by rw [bne_eq_false_iff_eq]; omega
    have HL := Aside0.mk hl
    clear hl
    go_enter Try.func73, Try.ntmps73
    go_wp2_with fail
    go_loopg [17] xs.length (fun gk i wr => ∃ k : Nat, i = .int .i64 k ∧ Aside0 (gk + k = xs.length) ∧ Aside0 (xs.take k = ys.take k) ∧ Aside0 (Below w.heap.size w wr))
    case atStart => exact ⟨0, rfl, ⟨rfl⟩, ⟨rfl⟩, ⟨Below.refl _ _⟩⟩
    case round =>
      obtain ⟨k, rfl, HK, HI, HB⟩ := hrel
      by_cases hlt : k < xs.length
      · have hltZ : ((k : Int) < (xs.length : Int)) := by omega
        have hlt2 : k < ys.length := by have := HL.out; omega
        have hltZ2 : ((k : Int) < (ys.length : Int)) := by omega
        obtain ⟨ad, A3, c3, A4, c4, e, h0, h1, h2, h3, h4, l3, g3, l4, g4⟩ := el26 (Kd.C_below HX.out HB.out) k hlt
        cases e
        obtain ⟨bd, B3, d3, B4, d4, e, q0, q1, q2, q3, q4, m3, f3, m4, f4⟩ := el26 (Kd.C_below HY.out HB.out) k hlt2
        cases e
        have HLT := Aside0.mk (And.intro hlt hlt2)
        generalize hxe : xs[k] = x at *
        generalize hye : ys[k] = y at *
        have al : ∀ (o : Obj) (a : Addr) (u : Value), wr.cell? a = some u → (wr.alloc o).cell? a = some u := fun o a u hu => pw_cell_below (below_alloc (Below.refl _ _) o) hu
        have q0' := fun o => al o _ _ q0
        have q1' := fun o => al o _ _ q1
        have q2' := fun o => al o _ _ q2
        have q3' := fun o => al o _ _ q3
        have q4' := fun o => al o _ _ q4
        have HIX := Aside0.mk (show ∀ b, eqB x y = b → (b = true → xs.take (k + 1) = ys.take (k + 1)) ∧ (b = false → eqB xs ys = false) from by
          intro b hb
          refine ⟨fun e => ?_, fun e => eqB_false (fun e2 => ?_)⟩
          · subst e
            have hxy := eqB_iff.1 hb
            rw [List.take_succ_eq_append_getElem hlt, List.take_succ_eq_append_getElem hlt2, HI.out, hxe, hye, hxy]
          · subst e
            have : x = y := by rw [← hxe, ← hye]; simp only [e2]
            rw [this, eqB_self] at hb
            cases hb)
        have HLT := Aside0.mk hlt
        have HC := Aside0.mk (HP.out x (by rw [← hxe]; exact List.getElem_mem hlt) y ((wr.alloc (.cells #[.int .i64 x.f0, .int .i64 x.f1, .string x.f2, .slice A3 x.f3.length c3, .slice A4 x.f4.length c4] 26)).alloc (.cells #[.int .i64 y.f0, .int .i64 y.f1, .string y.f2, .slice B3 y.f3.length d3, .slice B4 y.f4.length d4] 26)) A3 c3 A4 c4 B3 d3 B4 d4 (HB.out.trans ((below_alloc (below_alloc (Below.refl _ _) _) _).mono HB.out.size)) l3 (Kd.C_below g3 (below_alloc (below_alloc (Below.refl _ _) _) _)) l4 (Kd.C_below g4 (below_alloc (below_alloc (Below.refl _ _) _) _)) m3 (Kd.C_below f3 (below_alloc (below_alloc (Below.refl _ _) _) _)) m4 (Kd.C_below f4 (below_alloc (below_alloc (Below.refl _ _) _) _)))
        clear hxe hye al l3 g3 l4 g4 m3 f3 m4 f4 hlt2 q0 q1 q2 q3 q4
        obtain ⟨b, hb⟩ : ∃ b, eqB x y = b := ⟨_, rfl⟩
        have HBV := Aside0.mk hb
        clear hb
        cases b with
        | true =>
          go_wp2_with (go_at_fn g; refine HC.out.mono ?_; rw [HBV.out]; rintro e w' ⟨rfl, hb'⟩)
          go_roundg (gk - 1)
          case measure => have := HK.out; have := HLT.out; omega
          case rel => exact ⟨k + 1, by go_num, ⟨by have := HK.out; have := HLT.out; omega⟩, ⟨(HIX.out _ HBV.out).1 rfl⟩, ⟨HB.out.trans (((below_alloc (below_alloc (Below.refl _ _) _) _).trans (hb'.mono (by simp; omega))).mono HB.out.size)⟩⟩
        | false =>
          go_wp2_with (go_at_fn g; refine HC.out.mono ?_; rw [HBV.out]; rintro e w' ⟨rfl, hb'⟩)
          go_ret
          exact ⟨ret_bool ((HIX.out _ HBV.out).2 rfl).symm, HB.out.trans (((below_alloc (below_alloc (Below.refl _ _) _) _).trans (hb'.mono (by simp; omega))).mono HB.out.size)⟩
      · have hltz : ¬ (k : Int) < (xs.length : Int) := by omega
        have HX2 := Aside0.mk (show eqB xs ys = true from eqB_iff.2 (by
          have h1 : k = xs.length := by have := HK.out; omega
          have h2 := HI.out
          rw [h1, List.take_length, HL.out, List.take_length] at h2
          exact h2))
        go_wp2
        go_ret
        exact ⟨ret_bool HX2.out.symm, HB.out⟩
  · have hl' : (((xs.length : Int)) != (ys.length : Int)) = true := by rw [bne_iff_ne]; omega
    have HX2 := Aside0.mk (show eqB xs ys = false from eqB_false (fun e => hl (by rw [e])))
    clear hl
    go_enter Try.func73, Try.ntmps73
    go_wp2
    go_ret
    exact ⟨ret_bool HX2.out.symm, Below.refl _ _⟩

set_option maxRecDepth 100000 in
set_option maxHeartbeats 2000000 in
theorem same_calls (x : S26) : ∀ (y : S26) (w : World) (A3 : Option Addr) (c3 : Nat) (A4 : Option Addr) (c4 : Nat) (B3 : Option Addr) (d3 : Nat) (B4 : Option Addr) (d4 : Nat) (_ : x.f3.length ≤ c3) (_ : Kd.string.C w A3 x.f3.length x.f3) (_ : x.f4.length ≤ c4) (_ : k26.C w A4 x.f4.length x.f4) (_ : y.f3.length ≤ d3) (_ : Kd.string.C w B3 y.f3.length y.f3) (_ : y.f4.length ≤ d4) (_ : k26.C w B4 y.f4.length y.f4),
    Calls Try.prog 37 #[.agg #[.int .i64 x.f0, .int .i64 x.f1, .string x.f2, .slice A3 x.f3.length c3, .slice A4 x.f4.length c4], .agg #[.int .i64 y.f0, .int .i64 y.f1, .string y.f2, .slice B3 y.f3.length d3, .slice B4 y.f4.length d4]] w fun e w' => e = .returned (.bool (eqB x y)) ∧ Below w.heap.size w w' := by
  induction x using S26.ind with
  | h k n nm ls ar ih =>
  intro y w A3 c3 A4 c4 B3 d3 B4 d4 l3 g3 l4 g4 m3 f3 m4 f4
  obtain ⟨k', n', nm', ls', ar'⟩ := y
  dsimp only at l3 g3 l4 g4 m3 f3 m4 f4 ⊢
  have HI := Aside0.mk (s26_iff ⟨k, n, nm, ls, ar⟩ ⟨k', n', nm', ls', ar'⟩)
  have HE := Aside0.mk (fun (W : World) (hb : Below w.heap.size w W) => equalS_calls A3 c3 ls B3 d3 ls' W (Kd.C_below g3 hb) l3 (Kd.C_below f3 hb) m3)
  have HF := Aside0.mk (fun (W : World) (hb : Below w.heap.size w W) => equalFunc_calls 37 ar ar' A4 c4 B4 d4 W (Kd.C_below g4 hb) (Kd.C_below f4 hb) (enters_of Try.func37 (by kernel_rfl) rfl)
    (fun x hx y W' a3 e3 a4 e4 b3 o3 b4 o4 hb' p1 p2 p3 p4 p5 p6 p7 p8 => ih x hx y W' a3 e3 a4 e4 b3 o3 b4 o4 p1 p2 p3 p4 p5 p6 p7 p8))
  clear ih l3 g3 l4 g4 m3 f3 m4 f4
  have H2 := Aside0.mk (fun o o' => below_alloc (below_alloc (Below.refl w.heap.size w) o) o')
  by_cases h0 : k = k'
  · have h0' : (k == k') = true := beq_iff_eq.2 h0
    have H0 := Aside0.mk h0
    clear h0
    by_cases h1 : n = n'
    · have h1' : (n == n') = true := beq_iff_eq.2 h1
      have H1 := Aside0.mk h1
      clear h1
      by_cases h2 : nm = nm'
      · have h2' : (nm.toList == nm'.toList) = true := by rw [h2]; simp
        have H3 := Aside0.mk h2
        clear h2
        have HXY := Aside0.mk (show ∀ b1 b2, eqB ls ls' = b1 → eqB ar ar' = b2 → eqB (⟨k, n, nm, ls, ar⟩ : S26) ⟨k', n', nm', ls', ar'⟩ = (b1 && b2) from by
          rintro b1 b2 rfl rfl
          rw [Bool.eq_iff_iff, Bool.and_eq_true, eqB_iff, eqB_iff, eqB_iff, HI.out]
          exact ⟨fun e => e.2.2.2, fun e => ⟨H0.out, H1.out, H3.out, e⟩⟩)
        obtain ⟨b1, hb1⟩ : ∃ b, eqB ls ls' = b := ⟨_, rfl⟩
        obtain ⟨b2, hb2⟩ : ∃ b, eqB ar ar' = b := ⟨_, rfl⟩
        have HB1 := Aside0.mk hb1
        have HB2 := Aside0.mk hb2
        clear hb1 hb2
        cases b1 with
        | true =>
          go_enter Try.func37, Try.ntmps37
          go_wp2_with (first | (go_at_call 72; refine (HE.out _ (H2.out _ _)).mono ?_; rw [HB1.out]; rintro e w1 ⟨rfl, hbw⟩; obtain ⟨hcell, hfroz⟩ := bcell hbw; have HW1 := Aside0.mk hbw; have hz1 : w.heap.size + 1 < w1.heap.size := (by have h_ := hbw.size; simp only [World.size_alloc] at h_; omega); have hz0 : w.heap.size < w1.heap.size := Nat.lt_of_succ_lt hz1; clear hbw) | (go_at_call 73; refine (HF.out _ ((H2.out _ _).trans (HW1.out.mono (by simp; omega)))).mono ?_; rw [HB2.out]; rintro e w2 ⟨rfl, hbw2⟩))
          go_ret
          exact ⟨ret_bool (HXY.out _ _ HB1.out HB2.out).symm, ((H2.out _ _).trans (HW1.out.mono (by simp; omega))).trans (hbw2.mono (by omega))⟩
        | false =>
          go_enter Try.func37, Try.ntmps37
          go_wp2_with (go_at_call 72; refine (HE.out _ (H2.out _ _)).mono ?_; rw [HB1.out]; rintro e w1 ⟨rfl, hbw⟩)
          go_ret
          exact ⟨ret_bool (HXY.out _ _ HB1.out HB2.out).symm, (H2.out _ _).trans (hbw.mono (by simp; omega))⟩
      · have h2' : (nm.toList == nm'.toList) = false := beq_eq_false_iff_ne.2 (fun e => h2 (bytes_ext e))
        have HX := Aside0.mk (show eqB (⟨k, n, nm, ls, ar⟩ : S26) ⟨k', n', nm', ls', ar'⟩ = false from eqB_false (fun e => h2 (HI.out.1 e).2.2.1))
        clear h2
        go_enter Try.func37, Try.ntmps37
        go_wp2
        go_ret
        exact ⟨ret_bool HX.out.symm, H2.out _ _⟩
    · have h1' : (n == n') = false := beq_eq_false_iff_ne.2 h1
      have HX := Aside0.mk (show eqB (⟨k, n, nm, ls, ar⟩ : S26) ⟨k', n', nm', ls', ar'⟩ = false from eqB_false (fun e => h1 (HI.out.1 e).2.1))
      clear h1
      go_enter Try.func37, Try.ntmps37
      go_wp2
      go_ret
      exact ⟨ret_bool HX.out.symm, H2.out _ _⟩
  · have h0' : (k == k') = false := beq_eq_false_iff_ne.2 h0
    have HX := Aside0.mk (show eqB (⟨k, n, nm, ls, ar⟩ : S26) ⟨k', n', nm', ls', ar'⟩ = false from eqB_false (fun e => h0 (HI.out.1 e).1))
    clear h0
    go_enter Try.func37, Try.ntmps37
    go_wp2
    go_ret
    exact ⟨ret_bool HX.out.symm, H2.out _ _⟩
end Go.Proofs.Ytkeeknlfommieaa.PF
namespace Go.Proofs.Ytkeeknlfommieaa.PF
open Go.RowKit Go.Shelf Go.Proofs.YtkeeknlfommieaaW.PrintWords Go.Proofs.YtkeeknlfommieaaW.PrintLast Go.Proofs.YtkeeknlfommieaaW.PrintMore

/-- Where a text stands in a list, from place i on; -1: nowhere. -/
noncomputable def placeS (s : ByteArray) : List ByteArray → Nat → Int
  | [], _ => -1
  | x :: l, i => if eqB x s = true then (i : Int) else placeS s l (i + 1)
theorem placeS_drop (s : ByteArray) (l : List ByteArray) (i : Nat) (h : i < l.length) : placeS s (l.drop i) i = if l[i] = s then (i : Int) else placeS s (l.drop (i + 1)) (i + 1) := by
  rw [drop_head l i h, placeS]
  by_cases e : l[i] = s
  · rw [if_pos (eqB_iff.2 e), if_pos e]
  · rw [if_neg (fun h => e (eqB_iff.1 h)), if_neg e]
theorem placeS_range (s : ByteArray) (l : List ByteArray) : ∀ i : Nat, placeS s l i = -1 ∨ ((i : Int) ≤ placeS s l i ∧ placeS s l i < (i : Int) + l.length) := by
  induction l with
  | nil => intro i; exact .inl rfl
  | cons x l ih =>
    intro i
    rw [placeS]
    split
    · exact .inr ⟨by omega, by simp; omega⟩
    · rcases ih (i + 1) with h | h
      · exact .inl h
      · exact .inr ⟨by omega, by simp; omega⟩
theorem index_l0 (l : List ByteArray) (s : ByteArray) (hl : l.length ≤ 9223372036854775807) : ∀ (d i k : Nat), i + d = l.length → d < k → slices_Index_string_string.l0 k l s (l.length : Int) i = some (placeS s (l.drop i) i) := by
  intro d
  induction d with
  | zero =>
    intro i k hi hk
    obtain ⟨k, rfl⟩ : ∃ q, k = q + 1 := ⟨k - 1, by omega⟩
    rw [slices_Index_string_string.l0, if_neg (by omega), List.drop_eq_nil_of_le (by omega)]
    rfl
  | succ d ih =>
    intro i k hi hk
    obtain ⟨k, rfl⟩ : ∃ q, k = q + 1 := ⟨k - 1, by omega⟩
    rw [slices_Index_string_string.l0, if_pos (by omega), if_pos (by omega), if_pos (by omega), rdS_getElem l i (by omega), placeS_drop s l i (by omega)]
    by_cases e : l[i] = s
    · rw [if_pos (by rw [e]), if_pos e]
    · rw [if_neg (fun h => e (bytes_ext h).symm), if_neg e, show wrap64 ((i : Int) + 1) = ((i + 1 : Nat) : Int) from by unfold wrap64; omega, ih (i + 1) k (by omega) (by omega)]
theorem place_l0 (l : List ByteArray) (s : ByteArray) (hl : l.length ≤ 9223372036854775807) : ∀ (d i k : Nat), i + d = l.length → d < k → limbeckref01_Place.l0 k l s i = some (placeS s (l.drop i) i) := by
  intro d
  induction d with
  | zero =>
    intro i k hi hk
    obtain ⟨k, rfl⟩ : ∃ q, k = q + 1 := ⟨k - 1, by omega⟩
    rw [limbeckref01_Place.l0, if_neg (by omega), List.drop_eq_nil_of_le (by omega)]
    rfl
  | succ d ih =>
    intro i k hi hk
    obtain ⟨k, rfl⟩ : ∃ q, k = q + 1 := ⟨k - 1, by omega⟩
    rw [limbeckref01_Place.l0, if_pos (by omega), if_pos (by omega), rdS_getElem l i (by omega), placeS_drop s l i (by omega)]
    by_cases e : l[i] = s
    · rw [if_pos (by rw [e]), if_pos e]
    · rw [if_neg (fun h => e (bytes_ext h)), if_neg e, show wrap64 ((i : Int) + 1) = ((i + 1 : Nat) : Int) from by unfold wrap64; omega, ih (i + 1) k (by omega) (by omega)]
theorem index_calls (A0 : Option Addr) (c0 : Nat) (l0 : List ByteArray) (s : ByteArray) (w : World) (hr0 : Kd.C Kd.string w A0 l0.length l0) (hc0 : l0.length ≤ c0) :
    Calls Try.prog 77 #[.slice A0 l0.length c0, .string s] w fun e w' => e = .returned (.int .i64 (placeS s l0 0)) ∧ Below w.heap.size w w' :=
  (slices_Index_string_string.calls (l0.length + 1) A0 c0 l0 s _ w hr0 hc0 (by unfold slices_Index_string_string.f; simpa using index_l0 l0 s hr0.2.1 l0.length 0 (l0.length + 1) (by omega) (by omega))).mono fun e w' ⟨he, hd⟩ => ⟨he, hd.below⟩
theorem place_calls (A0 : Option Addr) (c0 : Nat) (l0 : List ByteArray) (s : ByteArray) (w : World) (hr0 : Kd.C Kd.string w A0 l0.length l0) (hc0 : l0.length ≤ c0) :
    Calls Try.prog 57 #[.slice A0 l0.length c0, .string s] w fun e w' => e = .returned (.int .i64 (placeS s l0 0)) ∧ Below w.heap.size w w' :=
  (limbeckref01_Place.calls (l0.length + 1) A0 c0 l0 s _ w hr0 hc0 (by unfold limbeckref01_Place.f; simpa using place_l0 l0 s hr0.2.1 l0.length 0 (l0.length + 1) (by omega) (by omega))).mono fun e w' ⟨he, hd⟩ => ⟨he, hd.below⟩

/-- A field's type. -/
noncomputable def fieldT (t : S26) (s : ByteArray) : S26 × Bool :=
  if t.f0 = 8 ∧ 0 ≤ placeS s t.f3 0 ∧ placeS s t.f3 0 < t.f4.length then (t.f4.getD (placeS s t.f3 0).toNat z26, true) else (z26, false)
theorem put5 {W : World} {g : Nat} {t : TypeId} {a0 a1 a2 a3 a4 b0 b1 b2 b3 b4 : Value} (h : W.heap[g]? = some (.cells #[a0, a1, a2, a3, a4] t (0, 0))) :
    (((((W.setCell ⟨g, 0, none⟩ b0).setCell ⟨g, 1, none⟩ b1).setCell ⟨g, 2, none⟩ b2).setCell ⟨g, 3, none⟩ b3).setCell ⟨g, 4, none⟩ b4).heap[g]? = some (.cells #[b0, b1, b2, b3, b4] t (0, 0)) :=
  blk_put (blk_put (blk_put (blk_put (blk_put h 0 _ rfl) 1 _ rfl) 2 _ rfl) 3 _ rfl) 4 _ rfl
theorem below5 {n g : Nat} {w W : World} {b0 b1 b2 b3 b4 : Value} (h : Below n w W) (hg : n ≤ g) : Below n w (((((W.setCell ⟨g, 0, none⟩ b0).setCell ⟨g, 1, none⟩ b1).setCell ⟨g, 2, none⟩ b2).setCell ⟨g, 3, none⟩ b3).setCell ⟨g, 4, none⟩ b4) :=
  ((((h.setCell (p := ⟨g, 0, none⟩) hg _).setCell (p := ⟨g, 1, none⟩) hg _).setCell (p := ⟨g, 2, none⟩) hg _).setCell (p := ⟨g, 3, none⟩) hg _).setCell (p := ⟨g, 4, none⟩) hg _
theorem RT_z (w : World) : RT w (.agg #[.int .i64 0, .int .i64 0, .string ⟨#[]⟩, .slice none 0 0, .slice none 0 0]) z26 := ⟨none, 0, none, 0, rfl, Nat.le_refl _, Kd.C_nil _ _, Nat.le_refl _, Kd.C_nil _ _⟩
theorem info26s : (Try.prog.info? 26).map (·.size) = some 5 := by kernel_rfl

set_option maxRecDepth 100000 in
set_option maxHeartbeats 1000000 in
theorem field_calls (t : S26) (s : ByteArray) (w : World) (A3 : Option Addr) (c3 : Nat) (A4 : Option Addr) (c4 : Nat) (l3 : t.f3.length ≤ c3) (g3 : Kd.string.C w A3 t.f3.length t.f3) (g4 : k26.C w A4 t.f4.length t.f4) :
    Calls Try.prog 42 #[.agg #[.int .i64 t.f0, .int .i64 t.f1, .string t.f2, .slice A3 t.f3.length c3, .slice A4 t.f4.length c4], .string s] w fun e w' => (∃ v, e = .returned (.tuple #[v, .bool (fieldT t s).2]) ∧ RT w' v (fieldT t s).1) ∧ Below w.heap.size w w' := by
  obtain ⟨p, hp⟩ : ∃ p, placeS s t.f3 0 = p := ⟨_, rfl⟩
  have HP := Aside0.mk hp
  have HC := Aside0.mk (fun (W : World) (hb : Below w.heap.size w W) => index_calls A3 c3 t.f3 s W (Kd.C_below g3 hb) l3)
  have HG4 := Aside0.mk g4
  clear l3 g3 g4 hp
  have H2 := Aside0.mk (fun o o' => below_alloc (below_alloc (Below.refl w.heap.size w) o) o')
  by_cases h : t.f0 = 8 ∧ 0 ≤ p ∧ p < (t.f4.length : Int)
  · obtain ⟨h8, hp0, hp1⟩ := h
    have h8' : (t.f0 != 8) = false := by rw [bne_eq_false_iff_eq]; exact h8
    obtain ⟨j, rfl⟩ := Int.eq_ofNat_of_zero_le hp0
    have hj : j < t.f4.length := by omega
    obtain ⟨ad, B3, d3, B4, d4, e, h0, h1, h2, h3, h4, m3, f3, m4, f4⟩ := el26 HG4.out j hj
    cases e
    have HX := Aside0.mk (show fieldT t s = (t.f4[j], true) from by
      unfold fieldT; rw [HP.out, if_pos ⟨h8, hp0, hp1⟩, Int.toNat_natCast, List.getD_eq_getElem?_getD, List.getElem?_eq_getElem hj, Option.getD_some])
    have HRD := Aside0.mk (show ∀ W, Below w.heap.size w W → RT W (.agg #[.int .i64 t.f4[j].f0, .int .i64 t.f4[j].f1, .string t.f4[j].f2, .slice B3 t.f4[j].f3.length d3, .slice B4 t.f4[j].f4.length d4]) t.f4[j] from fun W hb => ⟨B3, d3, B4, d4, rfl, m3, Kd.C_below f3 hb, m4, Kd.C_below f4 hb⟩)
    have hblk : (ad.add (j * 5)).block < w.heap.size := World.block_lt_of_cell? w _ h0
    generalize t.f4[j] = y at *
    have HLT := Aside0.mk hj
    clear h8 m3 f3 m4 f4 hp0 hj
    have hp0 : (0 : Int) ≤ (j : Int) := by omega
    go_enter Try.func42, Try.ntmps42
    go_wp2_with (go_at_call 77; refine (HC.out _ (H2.out _ _)).mono ?_; rw [HP.out]; rintro e w1 ⟨rfl, hbw⟩; obtain ⟨hcell, hfroz⟩ := bcell hbw; have HW1 := Aside0.mk ((H2.out _ _).trans (hbw.mono (by simp; omega))); have hz1 : w.heap.size + 1 < w1.heap.size := (by have h_ := hbw.size; simp only [World.size_alloc] at h_; omega); have hz0 : w.heap.size < w1.heap.size := Nat.lt_of_succ_lt hz1; have HBO := Aside0.mk (show w1.heap[w.heap.size + 1]? = some (.cells #[.int .i64 0, .int .i64 0, .string ⟨#[]⟩, .slice none 0 0, .slice none 0 0] 26 (0, 0)) from (by have h_ := blk_below (blk_new _ _) hbw; simpa using h_)); clear hbw; have e0 := pw_cell_below HW1.out h0; have e1 := pw_cell_below HW1.out h1; have e2 := pw_cell_below HW1.out h2; have e3 := pw_cell_below HW1.out h3; have e4 := pw_cell_below HW1.out h4)
    refine bodyPost_ret (results_ct rfl _ _ (w.heap.size + 1) 26 _ (0, 0) _ rfl (put5 HBO.out) Try.underlying26 rfl (by kernel_rfl)) rfl ?_
    rw [HX.out]
    exact ⟨⟨_, rfl, HRD.out _ (below5 HW1.out (by omega))⟩, below5 HW1.out (by omega)⟩
  · have HX := Aside0.mk (show fieldT t s = (z26, false) from by unfold fieldT; rw [HP.out, if_neg h])
    by_cases h8 : t.f0 = 8
    · have h8' : (t.f0 != 8) = false := by rw [bne_eq_false_iff_eq]; exact h8
      have hpp : p < 0 ∨ (0 ≤ p ∧ (t.f4.length : Int) ≤ p) := by omega
      clear h h8
      rcases hpp with hp | ⟨hp, hp2⟩
      · go_enter Try.func42, Try.ntmps42
        go_wp2_with (go_at_call 77; refine (HC.out _ (H2.out _ _)).mono ?_; rw [HP.out]; rintro e w1 ⟨rfl, hbw⟩; obtain ⟨hcell, hfroz⟩ := bcell hbw; have HW1 := Aside0.mk ((H2.out _ _).trans (hbw.mono (by simp; omega))); have hz1 : w.heap.size + 1 < w1.heap.size := (by have h_ := hbw.size; simp only [World.size_alloc] at h_; omega); have hz0 : w.heap.size < w1.heap.size := Nat.lt_of_succ_lt hz1; have HBO := Aside0.mk (show w1.heap[w.heap.size + 1]? = some (.cells #[.int .i64 0, .int .i64 0, .string ⟨#[]⟩, .slice none 0 0, .slice none 0 0] 26 (0, 0)) from (by have h_ := blk_below (blk_new _ _) hbw; simpa using h_)); clear hbw)
        (refine bodyPost_ret (results_ct rfl _ _ (w.heap.size + 1) 26 _ (0, 0) _ rfl (put5 HBO.out) Try.underlying26 rfl (by kernel_rfl)) rfl ?_; rw [HX.out]; exact ⟨⟨_, rfl, RT_z _⟩, below5 HW1.out (by omega)⟩)
      · go_enter Try.func42, Try.ntmps42
        go_wp2_with (go_at_call 77; refine (HC.out _ (H2.out _ _)).mono ?_; rw [HP.out]; rintro e w1 ⟨rfl, hbw⟩; obtain ⟨hcell, hfroz⟩ := bcell hbw; have HW1 := Aside0.mk ((H2.out _ _).trans (hbw.mono (by simp; omega))); have hz1 : w.heap.size + 1 < w1.heap.size := (by have h_ := hbw.size; simp only [World.size_alloc] at h_; omega); have hz0 : w.heap.size < w1.heap.size := Nat.lt_of_succ_lt hz1; have HBO := Aside0.mk (show w1.heap[w.heap.size + 1]? = some (.cells #[.int .i64 0, .int .i64 0, .string ⟨#[]⟩, .slice none 0 0, .slice none 0 0] 26 (0, 0)) from (by have h_ := blk_below (blk_new _ _) hbw; simpa using h_)); clear hbw)
        (refine bodyPost_ret (results_ct rfl _ _ (w.heap.size + 1) 26 _ (0, 0) _ rfl (put5 HBO.out) Try.underlying26 rfl (by kernel_rfl)) rfl ?_; rw [HX.out]; exact ⟨⟨_, rfl, RT_z _⟩, below5 HW1.out (by omega)⟩)
    · have h8' : (t.f0 != 8) = true := by rw [bne_iff_ne]; exact h8
      clear h h8
      go_enter Try.func42, Try.ntmps42
      go_wp2_with (go_at_call 77; refine (HC.out _ (H2.out _ _)).mono ?_; rw [HP.out]; rintro e w1 ⟨rfl, hbw⟩; obtain ⟨hcell, hfroz⟩ := bcell hbw; have HW1 := Aside0.mk ((H2.out _ _).trans (hbw.mono (by simp; omega))); have hz1 : w.heap.size + 1 < w1.heap.size := (by have h_ := hbw.size; simp only [World.size_alloc] at h_; omega); have hz0 : w.heap.size < w1.heap.size := Nat.lt_of_succ_lt hz1; have HBO := Aside0.mk (show w1.heap[w.heap.size + 1]? = some (.cells #[.int .i64 0, .int .i64 0, .string ⟨#[]⟩, .slice none 0 0, .slice none 0 0] 26 (0, 0)) from (by have h_ := blk_below (blk_new _ _) hbw; simpa using h_)); clear hbw)
      (refine bodyPost_ret (results_ct rfl _ _ (w.heap.size + 1) 26 _ (0, 0) _ rfl (put5 HBO.out) Try.underlying26 rfl (by kernel_rfl)) rfl ?_; rw [HX.out]; exact ⟨⟨_, rfl, RT_z _⟩, below5 HW1.out (by omega)⟩)
set_option maxRecDepth 100000 in
set_option maxHeartbeats 1000000 in
theorem rfield_calls (t : S26) (s : ByteArray) (w : World) (A3 : Option Addr) (c3 : Nat) (A4 : Option Addr) (c4 : Nat) (l3 : t.f3.length ≤ c3) (g3 : Kd.string.C w A3 t.f3.length t.f3) (g4 : k26.C w A4 t.f4.length t.f4) :
    Calls Try.prog 43 #[.agg #[.int .i64 t.f0, .int .i64 t.f1, .string t.f2, .slice A3 t.f3.length c3, .slice A4 t.f4.length c4], .string s] w fun e w' => (∃ v, e = .returned (.tuple #[v, .bool (fieldT t s).2]) ∧ RT w' v (fieldT t s).1) ∧ Below w.heap.size w w' := by
  obtain ⟨p, hp⟩ : ∃ p, placeS s t.f3 0 = p := ⟨_, rfl⟩
  have HP := Aside0.mk hp
  have HC := Aside0.mk (fun (W : World) (hb : Below w.heap.size w W) => place_calls A3 c3 t.f3 s W (Kd.C_below g3 hb) l3)
  have HG4 := Aside0.mk g4
  clear l3 g3 g4 hp
  have H2 := Aside0.mk (fun o o' => below_alloc (below_alloc (Below.refl w.heap.size w) o) o')
  by_cases h : t.f0 = 8 ∧ 0 ≤ p ∧ p < (t.f4.length : Int)
  · obtain ⟨h8, hp0, hp1⟩ := h
    have h8' : (t.f0 != 8) = false := by rw [bne_eq_false_iff_eq]; exact h8
    obtain ⟨j, rfl⟩ := Int.eq_ofNat_of_zero_le hp0
    have hj : j < t.f4.length := by omega
    obtain ⟨ad, B3, d3, B4, d4, e, h0, h1, h2, h3, h4, m3, f3, m4, f4⟩ := el26 HG4.out j hj
    cases e
    have HX := Aside0.mk (show fieldT t s = (t.f4[j], true) from by
      unfold fieldT; rw [HP.out, if_pos ⟨h8, hp0, hp1⟩, Int.toNat_natCast, List.getD_eq_getElem?_getD, List.getElem?_eq_getElem hj, Option.getD_some])
    have HRD := Aside0.mk (show ∀ W, Below w.heap.size w W → RT W (.agg #[.int .i64 t.f4[j].f0, .int .i64 t.f4[j].f1, .string t.f4[j].f2, .slice B3 t.f4[j].f3.length d3, .slice B4 t.f4[j].f4.length d4]) t.f4[j] from fun W hb => ⟨B3, d3, B4, d4, rfl, m3, Kd.C_below f3 hb, m4, Kd.C_below f4 hb⟩)
    have hblk : (ad.add (j * 5)).block < w.heap.size := World.block_lt_of_cell? w _ h0
    generalize t.f4[j] = y at *
    have HLT := Aside0.mk hj
    clear h8 m3 f3 m4 f4 hp0 hj
    have hp0 : (0 : Int) ≤ (j : Int) := by omega
    go_enter Try.func43, Try.ntmps43
    go_wp2_with (go_at_call 57; refine (HC.out _ (H2.out _ _)).mono ?_; rw [HP.out]; rintro e w1 ⟨rfl, hbw⟩; obtain ⟨hcell, hfroz⟩ := bcell hbw; have HW1 := Aside0.mk ((H2.out _ _).trans (hbw.mono (by simp; omega))); have hz1 : w.heap.size + 1 < w1.heap.size := (by have h_ := hbw.size; simp only [World.size_alloc] at h_; omega); have hz0 : w.heap.size < w1.heap.size := Nat.lt_of_succ_lt hz1; have HBO := Aside0.mk (show w1.heap[w.heap.size + 1]? = some (.cells #[.int .i64 0, .int .i64 0, .string ⟨#[]⟩, .slice none 0 0, .slice none 0 0] 26 (0, 0)) from (by have h_ := blk_below (blk_new _ _) hbw; simpa using h_)); clear hbw; have e0 := pw_cell_below HW1.out h0; have e1 := pw_cell_below HW1.out h1; have e2 := pw_cell_below HW1.out h2; have e3 := pw_cell_below HW1.out h3; have e4 := pw_cell_below HW1.out h4)
    refine bodyPost_ret (results_ct rfl _ _ (w.heap.size + 1) 26 _ (0, 0) _ rfl (put5 HBO.out) Try.underlying26 rfl (by kernel_rfl)) rfl ?_
    rw [HX.out]
    exact ⟨⟨_, rfl, HRD.out _ (below5 HW1.out (by omega))⟩, below5 HW1.out (by omega)⟩
  · have HX := Aside0.mk (show fieldT t s = (z26, false) from by unfold fieldT; rw [HP.out, if_neg h])
    by_cases h8 : t.f0 = 8
    · have h8' : (t.f0 != 8) = false := by rw [bne_eq_false_iff_eq]; exact h8
      have hpp : p < 0 ∨ (0 ≤ p ∧ (t.f4.length : Int) ≤ p) := by omega
      clear h h8
      rcases hpp with hp | ⟨hp, hp2⟩
      · go_enter Try.func43, Try.ntmps43
        go_wp2_with (go_at_call 57; refine (HC.out _ (H2.out _ _)).mono ?_; rw [HP.out]; rintro e w1 ⟨rfl, hbw⟩; obtain ⟨hcell, hfroz⟩ := bcell hbw; have HW1 := Aside0.mk ((H2.out _ _).trans (hbw.mono (by simp; omega))); have hz1 : w.heap.size + 1 < w1.heap.size := (by have h_ := hbw.size; simp only [World.size_alloc] at h_; omega); have hz0 : w.heap.size < w1.heap.size := Nat.lt_of_succ_lt hz1; have HBO := Aside0.mk (show w1.heap[w.heap.size + 1]? = some (.cells #[.int .i64 0, .int .i64 0, .string ⟨#[]⟩, .slice none 0 0, .slice none 0 0] 26 (0, 0)) from (by have h_ := blk_below (blk_new _ _) hbw; simpa using h_)); clear hbw)
        (refine bodyPost_ret (results_ct rfl _ _ (w.heap.size + 1) 26 _ (0, 0) _ rfl (put5 HBO.out) Try.underlying26 rfl (by kernel_rfl)) rfl ?_; rw [HX.out]; exact ⟨⟨_, rfl, RT_z _⟩, below5 HW1.out (by omega)⟩)
      · go_enter Try.func43, Try.ntmps43
        go_wp2_with (go_at_call 57; refine (HC.out _ (H2.out _ _)).mono ?_; rw [HP.out]; rintro e w1 ⟨rfl, hbw⟩; obtain ⟨hcell, hfroz⟩ := bcell hbw; have HW1 := Aside0.mk ((H2.out _ _).trans (hbw.mono (by simp; omega))); have hz1 : w.heap.size + 1 < w1.heap.size := (by have h_ := hbw.size; simp only [World.size_alloc] at h_; omega); have hz0 : w.heap.size < w1.heap.size := Nat.lt_of_succ_lt hz1; have HBO := Aside0.mk (show w1.heap[w.heap.size + 1]? = some (.cells #[.int .i64 0, .int .i64 0, .string ⟨#[]⟩, .slice none 0 0, .slice none 0 0] 26 (0, 0)) from (by have h_ := blk_below (blk_new _ _) hbw; simpa using h_)); clear hbw)
        (refine bodyPost_ret (results_ct rfl _ _ (w.heap.size + 1) 26 _ (0, 0) _ rfl (put5 HBO.out) Try.underlying26 rfl (by kernel_rfl)) rfl ?_; rw [HX.out]; exact ⟨⟨_, rfl, RT_z _⟩, below5 HW1.out (by omega)⟩)
    · have h8' : (t.f0 != 8) = true := by rw [bne_iff_ne]; exact h8
      clear h h8
      go_enter Try.func43, Try.ntmps43
      go_wp2_with (go_at_call 57; refine (HC.out _ (H2.out _ _)).mono ?_; rw [HP.out]; rintro e w1 ⟨rfl, hbw⟩; obtain ⟨hcell, hfroz⟩ := bcell hbw; have HW1 := Aside0.mk ((H2.out _ _).trans (hbw.mono (by simp; omega))); have hz1 : w.heap.size + 1 < w1.heap.size := (by have h_ := hbw.size; simp only [World.size_alloc] at h_; omega); have hz0 : w.heap.size < w1.heap.size := Nat.lt_of_succ_lt hz1; have HBO := Aside0.mk (show w1.heap[w.heap.size + 1]? = some (.cells #[.int .i64 0, .int .i64 0, .string ⟨#[]⟩, .slice none 0 0, .slice none 0 0] 26 (0, 0)) from (by have h_ := blk_below (blk_new _ _) hbw; simpa using h_)); clear hbw)
      (refine bodyPost_ret (results_ct rfl _ _ (w.heap.size + 1) 26 _ (0, 0) _ rfl (put5 HBO.out) Try.underlying26 rfl (by kernel_rfl)) rfl ?_; rw [HX.out]; exact ⟨⟨_, rfl, RT_z _⟩, below5 HW1.out (by omega)⟩)

def funT (a b : S26) : S26 := ⟨7, 0, ⟨#[]⟩, [], [a, b]⟩
/-- Two types in a new row. -/
theorem c26_two {W : World} {g : Nat} {a b : S26} {A3 : Option Addr} {c3 : Nat} {A4 : Option Addr} {c4 : Nat} {B3 : Option Addr} {d3 : Nat} {B4 : Option Addr} {d4 : Nat}
    (h : W.heap[g]? = some (.cells #[.int .i64 a.f0, .int .i64 a.f1, .string a.f2, .slice A3 a.f3.length c3, .slice A4 a.f4.length c4, .int .i64 b.f0, .int .i64 b.f1, .string b.f2, .slice B3 b.f3.length d3, .slice B4 b.f4.length d4] 26 (0, 0)))
    (l3 : a.f3.length ≤ c3) (g3 : Kd.string.C W A3 a.f3.length a.f3) (l4 : a.f4.length ≤ c4) (g4 : k26.C W A4 a.f4.length a.f4) (m3 : b.f3.length ≤ d3) (f3 : Kd.string.C W B3 b.f3.length b.f3) (m4 : b.f4.length ≤ d4) (f4 : k26.C W B4 b.f4.length b.f4) :
    k26.C W (some ⟨g, 0, none⟩) [a, b].length [a, b] := by
  refine ⟨rfl, by simp, fun _ => ⟨_, rfl, fun j p hj => ?_⟩⟩
  have hadd : ∀ m, (⟨g, 0, none⟩ : Addr).add m = ⟨g, m, none⟩ := fun m => add_plain g m
  match j, hj with
  | 0, hj =>
    cases hj
    refine ⟨_, rfl, k26_mk W a l3 g3 l4 g4, fun i u hu => ?_⟩
    rw [hadd, blk_cell h]
    match i, hu with
    | 0, hu => exact hu
    | 1, hu => exact hu
    | 2, hu => exact hu
    | 3, hu => exact hu
    | 4, hu => exact hu
  | 1, hj =>
    cases hj
    refine ⟨_, rfl, k26_mk W b m3 f3 m4 f4, fun i u hu => ?_⟩
    rw [hadd, blk_cell h]
    match i, hu with
    | 0, hu => exact hu
    | 1, hu => exact hu
    | 2, hu => exact hu
    | 3, hu => exact hu
    | 4, hu => exact hu

set_option maxRecDepth 100000 in
set_option maxHeartbeats 1000000 in
theorem fun_calls (a b : S26) (w : World) (A3 : Option Addr) (c3 : Nat) (A4 : Option Addr) (c4 : Nat) (B3 : Option Addr) (d3 : Nat) (B4 : Option Addr) (d4 : Nat) (l3 : a.f3.length ≤ c3) (g3 : Kd.string.C w A3 a.f3.length a.f3) (l4 : a.f4.length ≤ c4) (g4 : k26.C w A4 a.f4.length a.f4) (m3 : b.f3.length ≤ d3) (f3 : Kd.string.C w B3 b.f3.length b.f3) (m4 : b.f4.length ≤ d4) (f4 : k26.C w B4 b.f4.length b.f4) :
    Calls Try.prog 44 #[.agg #[.int .i64 a.f0, .int .i64 a.f1, .string a.f2, .slice A3 a.f3.length c3, .slice A4 a.f4.length c4], .agg #[.int .i64 b.f0, .int .i64 b.f1, .string b.f2, .slice B3 b.f3.length d3, .slice B4 b.f4.length d4]] w fun e w' => (∃ v, e = .returned v ∧ RT w' v (funT a b)) ∧ Below w.heap.size w w' := by
  have HR := Aside0.mk (fun (W : World) (hb : Below w.heap.size w W) (g : Nat) h => c26_two (W := W) (g := g) h l3 (Kd.C_below g3 hb) l4 (Kd.C_below g4 hb) m3 (Kd.C_below f3 hb) m4 (Kd.C_below f4 hb))
  clear l3 g3 l4 g4 m3 f3 m4 f4
  go_enter Try.func44, Try.ntmps44
  go_wp2
  have hres := blk_alloc (blk_new ((w.alloc (.cells #[.int .i64 a.f0, .int .i64 a.f1, .string a.f2, .slice A3 a.f3.length c3, .slice A4 a.f4.length c4] 26)).alloc (.cells #[.int .i64 b.f0, .int .i64 b.f1, .string b.f2, .slice B3 b.f3.length d3, .slice B4 b.f4.length d4] 26)) (.cells #[.int .i64 7, .int .i64 0, .string ⟨#[]⟩, .slice none 0 0, .slice (some ⟨w.heap.size + 1 + 1 + 1, 0, none⟩) 2 2] 26)) (.cells #[.int .i64 a.f0, .int .i64 a.f1, .string a.f2, .slice A3 a.f3.length c3, .slice A4 a.f4.length c4, .int .i64 b.f0, .int .i64 b.f1, .string b.f2, .slice B3 b.f3.length d3, .slice B4 b.f4.length d4] 26)
  have harr := blk_new (((w.alloc (.cells #[.int .i64 a.f0, .int .i64 a.f1, .string a.f2, .slice A3 a.f3.length c3, .slice A4 a.f4.length c4] 26)).alloc (.cells #[.int .i64 b.f0, .int .i64 b.f1, .string b.f2, .slice B3 b.f3.length d3, .slice B4 b.f4.length d4] 26)).alloc (.cells #[.int .i64 7, .int .i64 0, .string ⟨#[]⟩, .slice none 0 0, .slice (some ⟨w.heap.size + 1 + 1 + 1, 0, none⟩) 2 2] 26)) (.cells #[.int .i64 a.f0, .int .i64 a.f1, .string a.f2, .slice A3 a.f3.length c3, .slice A4 a.f4.length c4, .int .i64 b.f0, .int .i64 b.f1, .string b.f2, .slice B3 b.f3.length d3, .slice B4 b.f4.length d4] 26)
  simp only [World.size_alloc] at hres harr
  have hB : Below w.heap.size w _ := below_alloc (below_alloc (below_alloc (below_alloc (Below.refl w.heap.size w) (.cells #[.int .i64 a.f0, .int .i64 a.f1, .string a.f2, .slice A3 a.f3.length c3, .slice A4 a.f4.length c4] 26)) (.cells #[.int .i64 b.f0, .int .i64 b.f1, .string b.f2, .slice B3 b.f3.length d3, .slice B4 b.f4.length d4] 26)) (.cells #[.int .i64 7, .int .i64 0, .string ⟨#[]⟩, .slice none 0 0, .slice (some ⟨w.heap.size + 1 + 1 + 1, 0, none⟩) 2 2] 26)) (.cells #[.int .i64 a.f0, .int .i64 a.f1, .string a.f2, .slice A3 a.f3.length c3, .slice A4 a.f4.length c4, .int .i64 b.f0, .int .i64 b.f1, .string b.f2, .slice B3 b.f3.length d3, .slice B4 b.f4.length d4] 26)
  refine bodyPost_ret (results_single rfl (.cell (w.heap.size + 1 + 1) 26 _ (0, 0) _ rfl hres Try.underlying26 rfl (by kernel_rfl) .nil)) rfl ?_
  exact ⟨⟨_, rfl, none, 0, _, 2, rfl, Nat.le_refl _, Kd.C_nil _ _, Nat.le_refl _, HR.out _ hB _ harr⟩, hB⟩
set_option maxRecDepth 100000 in
set_option maxHeartbeats 1000000 in
theorem rfun_calls (a b : S26) (w : World) (A3 : Option Addr) (c3 : Nat) (A4 : Option Addr) (c4 : Nat) (B3 : Option Addr) (d3 : Nat) (B4 : Option Addr) (d4 : Nat) (l3 : a.f3.length ≤ c3) (g3 : Kd.string.C w A3 a.f3.length a.f3) (l4 : a.f4.length ≤ c4) (g4 : k26.C w A4 a.f4.length a.f4) (m3 : b.f3.length ≤ d3) (f3 : Kd.string.C w B3 b.f3.length b.f3) (m4 : b.f4.length ≤ d4) (f4 : k26.C w B4 b.f4.length b.f4) :
    Calls Try.prog 45 #[.agg #[.int .i64 a.f0, .int .i64 a.f1, .string a.f2, .slice A3 a.f3.length c3, .slice A4 a.f4.length c4], .agg #[.int .i64 b.f0, .int .i64 b.f1, .string b.f2, .slice B3 b.f3.length d3, .slice B4 b.f4.length d4]] w fun e w' => (∃ v, e = .returned v ∧ RT w' v (funT a b)) ∧ Below w.heap.size w w' := by
  have HR := Aside0.mk (fun (W : World) (hb : Below w.heap.size w W) (g : Nat) h => c26_two (W := W) (g := g) h l3 (Kd.C_below g3 hb) l4 (Kd.C_below g4 hb) m3 (Kd.C_below f3 hb) m4 (Kd.C_below f4 hb))
  clear l3 g3 l4 g4 m3 f3 m4 f4
  go_enter Try.func45, Try.ntmps45
  go_wp2
  have hres := blk_alloc (blk_new ((w.alloc (.cells #[.int .i64 a.f0, .int .i64 a.f1, .string a.f2, .slice A3 a.f3.length c3, .slice A4 a.f4.length c4] 26)).alloc (.cells #[.int .i64 b.f0, .int .i64 b.f1, .string b.f2, .slice B3 b.f3.length d3, .slice B4 b.f4.length d4] 26)) (.cells #[.int .i64 7, .int .i64 0, .string ⟨#[]⟩, .slice none 0 0, .slice (some ⟨w.heap.size + 1 + 1 + 1, 0, none⟩) 2 2] 26)) (.cells #[.int .i64 a.f0, .int .i64 a.f1, .string a.f2, .slice A3 a.f3.length c3, .slice A4 a.f4.length c4, .int .i64 b.f0, .int .i64 b.f1, .string b.f2, .slice B3 b.f3.length d3, .slice B4 b.f4.length d4] 26)
  have harr := blk_new (((w.alloc (.cells #[.int .i64 a.f0, .int .i64 a.f1, .string a.f2, .slice A3 a.f3.length c3, .slice A4 a.f4.length c4] 26)).alloc (.cells #[.int .i64 b.f0, .int .i64 b.f1, .string b.f2, .slice B3 b.f3.length d3, .slice B4 b.f4.length d4] 26)).alloc (.cells #[.int .i64 7, .int .i64 0, .string ⟨#[]⟩, .slice none 0 0, .slice (some ⟨w.heap.size + 1 + 1 + 1, 0, none⟩) 2 2] 26)) (.cells #[.int .i64 a.f0, .int .i64 a.f1, .string a.f2, .slice A3 a.f3.length c3, .slice A4 a.f4.length c4, .int .i64 b.f0, .int .i64 b.f1, .string b.f2, .slice B3 b.f3.length d3, .slice B4 b.f4.length d4] 26)
  simp only [World.size_alloc] at hres harr
  have hB : Below w.heap.size w _ := below_alloc (below_alloc (below_alloc (below_alloc (Below.refl w.heap.size w) (.cells #[.int .i64 a.f0, .int .i64 a.f1, .string a.f2, .slice A3 a.f3.length c3, .slice A4 a.f4.length c4] 26)) (.cells #[.int .i64 b.f0, .int .i64 b.f1, .string b.f2, .slice B3 b.f3.length d3, .slice B4 b.f4.length d4] 26)) (.cells #[.int .i64 7, .int .i64 0, .string ⟨#[]⟩, .slice none 0 0, .slice (some ⟨w.heap.size + 1 + 1 + 1, 0, none⟩) 2 2] 26)) (.cells #[.int .i64 a.f0, .int .i64 a.f1, .string a.f2, .slice A3 a.f3.length c3, .slice A4 a.f4.length c4, .int .i64 b.f0, .int .i64 b.f1, .string b.f2, .slice B3 b.f3.length d3, .slice B4 b.f4.length d4] 26)
  refine bodyPost_ret (results_single rfl (.cell (w.heap.size + 1 + 1) 26 _ (0, 0) _ rfl hres Try.underlying26 rfl (by kernel_rfl) .nil)) rfl ?_
  exact ⟨⟨_, rfl, none, 0, _, 2, rfl, Nat.le_refl _, Kd.C_nil _ _, Nat.le_refl _, HR.out _ hB _ harr⟩, hB⟩
end Go.Proofs.Ytkeeknlfommieaa.PF
namespace Go.Proofs.Ytkeeknlfommieaa.PF
open Go.RowKit Go.Shelf Go.Proofs.YtkeeknlfommieaaW.PrintWords Go.Proofs.YtkeeknlfommieaaW.PrintLast Go.Proofs.YtkeeknlfommieaaW.PrintMore
attribute [local go_sem] Oper.semAt_some

set_option maxRecDepth 100000 in
set_option maxHeartbeats 2000000 in
theorem nodes_calls (t : S26) (w : World) (A3 : Option Addr) (c3 : Nat) (A4 : Option Addr) (c4 : Nat) (g4 : k26.C w A4 t.f4.length t.f4) (hbig : (preT t).length ≤ 4611686018427387904) :
    Calls Try.prog 27 #[.agg #[.int .i64 t.f0, .int .i64 t.f1, .string t.f2, .slice A3 t.f3.length c3, .slice A4 t.f4.length c4]] w fun e w' => e = .returned (.int .i64 (preT t).length) ∧ Below w.heap.size w w' := by
  have HF := Aside0.mk (Kd.C_F k26_heap g4)
  have HBIG := Aside0.mk hbig
  clear g4 hbig
  refine (callsIn_wide (n := 3)).1 ?_
  refine callsIn_of_wp_marks Try.func27 rfl trivial ?_ rfl
  simp only [Try.ntmps27, List.size_toArray, List.length_cons, List.length_nil, Nat.reduceAdd, Nat.reduceSub, Array.replicate_succ, Array.replicate_zero, List.push_toArray, List.append_toArray, List.nil_append, List.cons_append]
  gi_wp2_with ((try first | refine ⟨trivial, fun h => (by cases h), ?_⟩ | refine ⟨trivial, ?_⟩); gi_at_call 68; refine (nodes_in _ _ ⟨_, _, _, _, _, rfl⟩ _).mono ?_; rintro e w' ⟨rfl, rfl⟩)
  have hbt := blk_new ((w.alloc (.cells #[.int .i64 t.f0, .int .i64 t.f1, .string t.f2, .slice A3 t.f3.length c3, .slice A4 t.f4.length c4] 26)).alloc (.cells #[.int .i64 0] 3)) (.cells #[.int .i64 t.f0, .int .i64 t.f1, .string t.f2, .slice A3 t.f3.length c3, .slice A4 t.f4.length c4] 26)
  have hbn := blk_alloc (blk_new (w.alloc (.cells #[.int .i64 t.f0, .int .i64 t.f1, .string t.f2, .slice A3 t.f3.length c3, .slice A4 t.f4.length c4] 26)) (.cells #[.int .i64 0] 3)) (.cells #[.int .i64 t.f0, .int .i64 t.f1, .string t.f2, .slice A3 t.f3.length c3, .slice A4 t.f4.length c4] 26)
  simp only [World.size_alloc] at hbt hbn
  have hb0 : Below w.heap.size w (((w.alloc (.cells #[.int .i64 t.f0, .int .i64 t.f1, .string t.f2, .slice A3 t.f3.length c3, .slice A4 t.f4.length c4] 26)).alloc (.cells #[.int .i64 0] 3)).alloc (.cells #[.int .i64 t.f0, .int .i64 t.f1, .string t.f2, .slice A3 t.f3.length c3, .slice A4 t.f4.length c4] 26)) :=
    below_alloc (below_alloc (below_alloc (Below.refl _ _) _) _) _
  obtain ⟨W0, hW0⟩ : ∃ W0, ((w.alloc (.cells #[.int .i64 t.f0, .int .i64 t.f1, .string t.f2, .slice A3 t.f3.length c3, .slice A4 t.f4.length c4] 26)).alloc (.cells #[.int .i64 0] 3)).alloc (.cells #[.int .i64 t.f0, .int .i64 t.f1, .string t.f2, .slice A3 t.f3.length c3, .slice A4 t.f4.length c4] 26) = W0 := ⟨_, rfl⟩
  have hsz : W0.heap.size = w.heap.size + 3 := by rw [← hW0]; simp
  rw [hW0] at hbt hbn hb0 ⊢
  refine wpIn_rangeFunc_ownH rfl (by omega) (gf := 100) (lb := #[.pointer (some ⟨w.heap.size + 1 + 1, 0, none⟩)]) rfl trivial (enters_of Try.func100 (by kernel_rfl) rfl)
    (nodes_stops _ t w.heap.size (w.heap.size + 1 + 1) A3 c3 A4 c4 W0 (by omega) hbt (Kd.F_step HF.out (fun b hb _ => hb0.block b hb))) (fun h k => h.trans k) (fun W l o o' hl h hc hw => kt_b (by omega) W l o o' hl h hc hw) (Below.refl _ _) (fun _ => rfl)
    (fun pre W => W.heap[w.heap.size + 1]? = some (.cells #[.int .i64 pre.length] 3 (0, 0)) ∧ Below w.heap.size w W) (fun _ _ _ => False) ?hI ?hIx ⟨hbn, hb0⟩
    (fun x a' _ => a' = { tmps := #[Value.agg #[.int .i64 t.f0, .int .i64 t.f1, .string t.f2, .slice A3 t.f3.length c3, .slice A4 t.f4.length c4], .pointer (some ⟨w.heap.size, 0, none⟩), .int .i64 0, .pointer (some ⟨w.heap.size + 1, 0, none⟩), Value.agg #[.int .i64 t.f0, .int .i64 t.f1, .string t.f2, .slice A3 t.f3.length c3, .slice A4 t.f4.length c4], .func (.func 100) #[] #[.pointer (some ⟨w.heap.size + 1 + 1, 0, none⟩)], x.enc, undef, undef, undef], defers := [] }) ?hAx ?assign ?body ?done ?stop
  case hI =>
    rintro s A B row ⟨h1, h2⟩ hg hr
    exact ⟨blk_grown h1 hg (fun e => by have := (hr _ e.symm).1; omega), h2.grown hg h2.size (fun r e => by have := (hr _ e).1; omega)⟩
  case hIx => exact fun _ _ _ _ _ hs _ _ => hs
  case hAx => exact fun _ _ _ _ _ _ hs _ _ => hs
  case assign =>
    intro l pre x W K hi hK
    gi_wp2
    refine hK _ _ (KeepsFrom.refl _ _) (KT.refl _ _) hi ?_
    simp
  case body =>
    rintro l pre x a' W hl _ ⟨h1, h2⟩ rfl hlt
    have hc := blk_cell h1 0
    have hf := blk_frozen h1 0
    simp at hc
    have HPL := Aside0.mk (show wrap64 ((pre.length : Int) + 1) = ((pre ++ [x]).length : Int) from by have := HBIG.out; unfold wrap64; simp; omega)
    gi_wp2
    refine ⟨(KeepsOthers.setCell _ _ _).from _, ⟨(Below.refl _ _).setCell (p := ⟨w.heap.size + 1, 0, none⟩) (by simp) _, fun b c hb => ?_⟩, ?_, h2.setCell (p := ⟨w.heap.size + 1, 0, none⟩) (by simp) _⟩
    · have hne : b ≠ w.heap.size + 1 := by rintro rfl; rw [h1] at hb; cases hb
      exact (Below.heap_setCell _ _ _ _ hne).trans hb
    · rw [HPL.out]
      exact blk_put h1 0 _ rfl
  case done =>
    rintro D ys W hD hy ⟨h1, h2⟩ hK
    have hc := blk_cell h1 0
    simp at hc
    gi_wp2
    refine ⟨by simp, .inl ⟨_, _, rfl, run_takeDeferred hK, ?_⟩⟩
    have hl : (ys.length : Int) = ((preT t).length : Int) := by rw [← hy, List.length_map]
    refine ⟨_, results_tmp rfl _ _ _, ?_⟩
    refine ⟨congrArg (fun z : Int => Ending.returned (.int .i64 z)) hl, ?_⟩
    exact h2.trans (belowK_b (w := w) (Nat.le_refl _) W D _ _ (by omega) hK rfl rfl)
  case stop =>
    rintro D c pre W _ _ h _
    exact h.elim

set_option maxRecDepth 100000 in
set_option maxHeartbeats 2000000 in
theorem fits_calls (t : S26) (w : World) (A3 : Option Addr) (c3 : Nat) (A4 : Option Addr) (c4 : Nat) (g4 : k26.C w A4 t.f4.length t.f4) :
    Calls Try.prog 35 #[Value.agg #[.int .i64 t.f0, .int .i64 t.f1, .string t.f2, .slice A3 t.f3.length c3, .slice A4 t.f4.length c4]] w fun e w' => e = .returned (.bool (decide ((preT t).length ≤ 300))) ∧ Below w.heap.size w w' := by
  have HF := Aside0.mk (Kd.C_F k26_heap g4)
  clear g4
  refine (callsIn_wide (n := 3)).1 ?_
  refine callsIn_of_wp_marks Try.func35 rfl trivial ?_ rfl
  simp only [Try.ntmps35, List.size_toArray, List.length_cons, List.length_nil, Nat.reduceAdd, Nat.reduceSub, Array.replicate_succ, Array.replicate_zero, List.push_toArray, List.append_toArray, List.nil_append, List.cons_append]
  gi_wp2_with ((try first | refine ⟨trivial, fun h => (by cases h), ?_⟩ | refine ⟨trivial, ?_⟩); gi_at_call 68; refine (nodes_in _ _ ⟨_, _, _, _, _, rfl⟩ _).mono ?_; rintro e w' ⟨rfl, rfl⟩)
  have hbt := blk_new ((((w.alloc (.cells #[.int .i64 t.f0, .int .i64 t.f1, .string t.f2, .slice A3 t.f3.length c3, .slice A4 t.f4.length c4] 26)).alloc (.cells #[.bool false] 4)).alloc (.cells #[.int .i64 0] 3))) (.cells #[.int .i64 t.f0, .int .i64 t.f1, .string t.f2, .slice A3 t.f3.length c3, .slice A4 t.f4.length c4] 26)
  have hbr := blk_alloc (blk_alloc (blk_new ((w.alloc (.cells #[.int .i64 t.f0, .int .i64 t.f1, .string t.f2, .slice A3 t.f3.length c3, .slice A4 t.f4.length c4] 26))) (.cells #[.bool false] 4)) (.cells #[.int .i64 0] 3)) (.cells #[.int .i64 t.f0, .int .i64 t.f1, .string t.f2, .slice A3 t.f3.length c3, .slice A4 t.f4.length c4] 26)
  have hbn := blk_alloc (blk_new (((w.alloc (.cells #[.int .i64 t.f0, .int .i64 t.f1, .string t.f2, .slice A3 t.f3.length c3, .slice A4 t.f4.length c4] 26)).alloc (.cells #[.bool false] 4))) (.cells #[.int .i64 0] 3)) (.cells #[.int .i64 t.f0, .int .i64 t.f1, .string t.f2, .slice A3 t.f3.length c3, .slice A4 t.f4.length c4] 26)
  simp only [World.size_alloc] at hbt hbr hbn
  have hb0 : Below w.heap.size w (((((w.alloc (.cells #[.int .i64 t.f0, .int .i64 t.f1, .string t.f2, .slice A3 t.f3.length c3, .slice A4 t.f4.length c4] 26)).alloc (.cells #[.bool false] 4)).alloc (.cells #[.int .i64 0] 3)).alloc (.cells #[.int .i64 t.f0, .int .i64 t.f1, .string t.f2, .slice A3 t.f3.length c3, .slice A4 t.f4.length c4] 26))) := below_alloc (below_alloc (below_alloc (below_alloc (Below.refl _ _) _) _) _) _
  obtain ⟨W0, hW0⟩ : ∃ W0, ((((w.alloc (.cells #[.int .i64 t.f0, .int .i64 t.f1, .string t.f2, .slice A3 t.f3.length c3, .slice A4 t.f4.length c4] 26)).alloc (.cells #[.bool false] 4)).alloc (.cells #[.int .i64 0] 3)).alloc (.cells #[.int .i64 t.f0, .int .i64 t.f1, .string t.f2, .slice A3 t.f3.length c3, .slice A4 t.f4.length c4] 26)) = W0 := ⟨_, rfl⟩
  have hsz : W0.heap.size = w.heap.size + 4 := by rw [← hW0]; simp
  rw [hW0] at hbt hbr hbn hb0 ⊢
  refine wpIn_rangeFunc_ownH rfl (by omega) (gf := 100) (lb := #[.pointer (some ⟨w.heap.size + 1 + 1 + 1, 0, none⟩)]) rfl trivial (enters_of Try.func100 (by kernel_rfl) rfl)
    (nodes_stops _ t w.heap.size (w.heap.size + 1 + 1 + 1) A3 c3 A4 c4 W0 (by omega) hbt (Kd.F_step HF.out (fun b hb _ => hb0.block b hb))) (fun h k => h.trans k) (fun W l o o' hl h hc hw => kt_b (by omega) W l o o' hl h hc hw) (Below.refl _ _) (fun _ => rfl)
    (fun pre W => W.heap[w.heap.size + 1 + 1]? = some (.cells #[.int .i64 pre.length] 3 (0, 0)) ∧ W.heap[w.heap.size + 1]? = some (.cells #[.bool false] 4 (0, 0)) ∧ pre.length ≤ 300 ∧ Below w.heap.size w W)
    (fun c pre W => c = .ret ∧ W.heap[w.heap.size + 1]? = some (.cells #[.bool false] 4 (0, 0)) ∧ 300 < pre.length ∧ Below w.heap.size w W) ?hI ?hIx ⟨hbn, hbr, Nat.zero_le _, hb0⟩
    (fun x a' _ => a' = { tmps := #[Value.agg #[.int .i64 t.f0, .int .i64 t.f1, .string t.f2, .slice A3 t.f3.length c3, .slice A4 t.f4.length c4], .pointer (some ⟨w.heap.size, 0, none⟩), .pointer (some ⟨w.heap.size + 1, 0, none⟩), .pointer (some ⟨w.heap.size + 1 + 1, 0, none⟩), Value.agg #[.int .i64 t.f0, .int .i64 t.f1, .string t.f2, .slice A3 t.f3.length c3, .slice A4 t.f4.length c4], .func (.func 100) #[] #[.pointer (some ⟨w.heap.size + 1 + 1 + 1, 0, none⟩)], x.enc, undef, undef, undef, undef], defers := [] }) ?hAx ?assign ?body ?done ?stop
  case hI =>
    rintro s A B row ⟨h1, h2, h3, h4⟩ hg hr
    exact ⟨blk_grown h1 hg (fun e => by have := (hr _ e.symm).1; omega), blk_grown h2 hg (fun e => by have := (hr _ e.symm).1; omega), h3, h4.grown hg h4.size (fun r e => by have := (hr _ e).1; omega)⟩
  case hIx =>
    rintro c s A B row ⟨h1, h2, h3, h4⟩ hg hr
    exact ⟨h1, blk_grown h2 hg (fun e => by have := (hr _ e.symm).1; omega), h3, h4.grown hg h4.size (fun r e => by have := (hr _ e).1; omega)⟩
  case hAx => exact fun _ _ _ _ _ _ hs _ _ => hs
  case assign =>
    intro l pre x W K hi hK
    gi_wp2
    refine hK _ _ (KeepsFrom.refl _ _) (KT.refl _ _) hi ?_
    simp
  case body =>
    rintro l pre x a' W hl _ ⟨h1, h2, h3, h4⟩ rfl hlt
    have hc := blk_cell h1 0
    have hf := blk_frozen h1 0
    have hc2 := blk_cell h2 0
    have hf2 := blk_frozen h2 0
    simp at hc hc2
    have HPL := Aside0.mk (show ((pre.length : Int) + 1) = ((pre ++ [x]).length : Int) from by simp)
    have hp0 : (0 : Int) ≤ (pre.length : Int) := by omega
    have hp1 : (pre.length : Int) ≤ 300 := by omega
    have HB2 := Aside0.mk (show (W.setCell ⟨w.heap.size + 1 + 1, 0, none⟩ (.int .i64 ((pre.length : Int) + 1))).heap[w.heap.size + 1 + 1]? = some (.cells #[.int .i64 ((pre.length : Int) + 1)] 3 (0, 0)) from blk_put h1 0 _ rfl)
    have HB1 := Aside0.mk (show (W.setCell ⟨w.heap.size + 1 + 1, 0, none⟩ (.int .i64 ((pre.length : Int) + 1))).heap[w.heap.size + 1]? = some (.cells #[.bool false] 4 (0, 0)) from blk_far h2 (by simp) _)
    have hcn := blk_cell HB2.out 0
    have hcr := blk_cell HB1.out 0
    have hfr := blk_frozen HB1.out 0
    simp at hcn hcr
    have HH := Aside0.mk (show KT w.heap.size W (W.setCell ⟨w.heap.size + 1 + 1, 0, none⟩ (.int .i64 ((pre.length : Int) + 1))) from ⟨(Below.refl _ _).setCell (p := ⟨w.heap.size + 1 + 1, 0, none⟩) (by simp; omega) _, fun b c hb => by
      have hne : b ≠ w.heap.size + 1 + 1 := by rintro rfl; rw [h1] at hb; cases hb
      exact (Below.heap_setCell _ _ _ _ hne).trans hb⟩)
    have H4 := Aside0.mk h4
    have HL := Aside0.mk h3
    clear h1 h2 h3 h4 hc2 hf2
    by_cases hgt : 300 < (pre.length : Int) + 1
    · gi_wp2
      refine ⟨((KeepsOthers.setCell _ _ _).trans (KeepsOthers.setCell _ _ _)).from _, rfl, ?_, ?_, ?_⟩
      · exact blk_put HB1.out 0 _ rfl
      · simp; omega
      · exact (H4.out.trans HH.out.low).setCell (p := ⟨w.heap.size + 1, 0, none⟩) (by simp) _
    · gi_wp2
      refine ⟨(KeepsOthers.setCell _ _ _).from _, HH.out, ?_, HB1.out, ?_, H4.out.trans HH.out.low⟩
      · rw [← HPL.out]; exact HB2.out
      · simp; omega
  case done =>
    rintro D ys W hD hy ⟨h1, h2, h3, h4⟩ hK
    have hcr := blk_cell h2 0
    have hfr := blk_frozen h2 0
    simp at hcr
    have HY := Aside0.mk (show decide ((preT t).length ≤ 300) = true from by rw [← hy, List.length_map]; exact decide_eq_true h3)
    have H2 := Aside0.mk h2
    clear h1 h2 h3 hy
    gi_wp2
    have hK' := (KeepsOthers.setCell W ⟨w.heap.size + 1, 0, none⟩ (.bool true)).same D _ hK rfl
    refine ⟨by simp, .inl ⟨_, _, rfl, run_takeDeferred hK', ?_⟩⟩
    have hc5 := cell_kept (show (W.setCell ⟨w.heap.size + 1, 0, none⟩ (.bool true)).cell? ⟨w.heap.size + 1, 0, none⟩ = some (.bool true) from blk_cell (blk_put H2.out 0 _ rfl) 0) (grownBy_putObj' _ D (.deferred none)) (fun r e => by cases e; exact ⟨_, hK', rfl⟩)
    refine ⟨.bool true, ?_, by rw [HY.out], ?_⟩
    · simp [results, Try.f35, go_sem, hc5]
    · exact (h4.setCell (p := ⟨w.heap.size + 1, 0, none⟩) (by simp) _).trans (belowK_b (w := w) (Nat.le_refl _) _ D _ _ (by omega) hK' rfl rfl)
  case stop =>
    rintro D c pre W hD hp ⟨rfl, h2, h3, h4⟩ hK
    have HY := Aside0.mk (show decide ((preT t).length ≤ 300) = false from decide_eq_false (by have := hp.length_le; rw [List.length_map] at this; omega))
    have hc5 := cell_kept (show W.cell? ⟨w.heap.size + 1, 0, none⟩ = some (.bool false) from blk_cell h2 0) (grownBy_putObj' _ D (.deferred none)) (fun r e => by cases e; exact ⟨_, hK, rfl⟩)
    clear h2 h3 hp
    gi_wp2
    refine ⟨by simp, .inl ⟨_, _, rfl, run_takeDeferred hK, ?_⟩⟩
    refine ⟨.bool false, ?_, by rw [HY.out], ?_⟩
    · simp [results, Try.f35, go_sem, hc5]
    · exact h4.trans (belowK_b (w := w) (Nat.le_refl _) _ D _ _ (by omega) hK rfl rfl)

def hasT (t : S26) (kd : Int) : Bool := (preT t).any fun x => decide (x.f0 = kd)
theorem NV.enc_eq (v : NV) : v.enc = .agg #[.int .i64 v.x.f0, .int .i64 v.x.f1, .string v.x.f2, .slice v.A3 v.x.f3.length v.c3, .slice v.A4 v.x.f4.length v.c4] := rfl
set_option maxRecDepth 100000 in
set_option maxHeartbeats 2000000 in
theorem has_calls (t : S26) (kd : Int) (w : World) (A3 : Option Addr) (c3 : Nat) (A4 : Option Addr) (c4 : Nat) (g4 : k26.C w A4 t.f4.length t.f4) :
    Calls Try.prog 31 #[Value.agg #[.int .i64 t.f0, .int .i64 t.f1, .string t.f2, .slice A3 t.f3.length c3, .slice A4 t.f4.length c4], .int .i64 kd] w fun e w' => e = .returned (.bool (hasT t kd)) ∧ Below w.heap.size w w' := by
  have HF := Aside0.mk (Kd.C_F k26_heap g4)
  clear g4
  refine (callsIn_wide (n := 3)).1 ?_
  refine callsIn_of_wp_marks Try.func31 rfl trivial ?_ rfl
  simp only [Try.ntmps31, List.size_toArray, List.length_cons, List.length_nil, Nat.reduceAdd, Nat.reduceSub, Array.replicate_succ, Array.replicate_zero, List.push_toArray, List.append_toArray, List.nil_append, List.cons_append]
  gi_wp2_with ((try first | refine ⟨trivial, fun h => (by cases h), ?_⟩ | refine ⟨trivial, ?_⟩); gi_at_call 68; refine (nodes_in _ _ ⟨_, _, _, _, _, rfl⟩ _).mono ?_; rintro e w' ⟨rfl, rfl⟩)
  have hbt := blk_new ((((w.alloc (.cells #[.int .i64 t.f0, .int .i64 t.f1, .string t.f2, .slice A3 t.f3.length c3, .slice A4 t.f4.length c4] 26)).alloc (.cells #[.int .i64 kd] 3)).alloc (.cells #[.bool false] 4))) (.cells #[.int .i64 t.f0, .int .i64 t.f1, .string t.f2, .slice A3 t.f3.length c3, .slice A4 t.f4.length c4] 26)
  have hbk := blk_alloc (blk_alloc (blk_new ((w.alloc (.cells #[.int .i64 t.f0, .int .i64 t.f1, .string t.f2, .slice A3 t.f3.length c3, .slice A4 t.f4.length c4] 26))) (.cells #[.int .i64 kd] 3)) (.cells #[.bool false] 4)) (.cells #[.int .i64 t.f0, .int .i64 t.f1, .string t.f2, .slice A3 t.f3.length c3, .slice A4 t.f4.length c4] 26)
  have hbr := blk_alloc (blk_new (((w.alloc (.cells #[.int .i64 t.f0, .int .i64 t.f1, .string t.f2, .slice A3 t.f3.length c3, .slice A4 t.f4.length c4] 26)).alloc (.cells #[.int .i64 kd] 3))) (.cells #[.bool false] 4)) (.cells #[.int .i64 t.f0, .int .i64 t.f1, .string t.f2, .slice A3 t.f3.length c3, .slice A4 t.f4.length c4] 26)
  simp only [World.size_alloc] at hbt hbr hbk
  have hb0 : Below w.heap.size w (((((w.alloc (.cells #[.int .i64 t.f0, .int .i64 t.f1, .string t.f2, .slice A3 t.f3.length c3, .slice A4 t.f4.length c4] 26)).alloc (.cells #[.int .i64 kd] 3)).alloc (.cells #[.bool false] 4)).alloc (.cells #[.int .i64 t.f0, .int .i64 t.f1, .string t.f2, .slice A3 t.f3.length c3, .slice A4 t.f4.length c4] 26))) := below_alloc (below_alloc (below_alloc (below_alloc (Below.refl _ _) _) _) _) _
  obtain ⟨W0, hW0⟩ : ∃ W0, ((((w.alloc (.cells #[.int .i64 t.f0, .int .i64 t.f1, .string t.f2, .slice A3 t.f3.length c3, .slice A4 t.f4.length c4] 26)).alloc (.cells #[.int .i64 kd] 3)).alloc (.cells #[.bool false] 4)).alloc (.cells #[.int .i64 t.f0, .int .i64 t.f1, .string t.f2, .slice A3 t.f3.length c3, .slice A4 t.f4.length c4] 26)) = W0 := ⟨_, rfl⟩
  have hsz : W0.heap.size = w.heap.size + 4 := by rw [← hW0]; simp
  rw [hW0] at hbt hbr hbk hb0 ⊢
  refine wpIn_rangeFunc_ownH rfl (by omega) (gf := 100) (lb := #[.pointer (some ⟨w.heap.size + 1 + 1 + 1, 0, none⟩)]) rfl trivial (enters_of Try.func100 (by kernel_rfl) rfl)
    (nodes_stops _ t w.heap.size (w.heap.size + 1 + 1 + 1) A3 c3 A4 c4 W0 (by omega) hbt (Kd.F_step HF.out (fun b hb _ => hb0.block b hb))) (fun h k => h.trans k) (fun W l o o' hl h hc hw => kt_b (by omega) W l o o' hl h hc hw) (Below.refl _ _) (fun _ => rfl)
    (fun pre W => W.heap[w.heap.size + 1]? = some (.cells #[.int .i64 kd] 3 (0, 0)) ∧ W.heap[w.heap.size + 1 + 1]? = some (.cells #[.bool false] 4 (0, 0)) ∧ (∀ v ∈ pre, v.x.f0 ≠ kd) ∧ Below w.heap.size w W ∧ w.heap.size + 4 ≤ W.heap.size)
    (fun c pre W => c = .ret ∧ W.heap[w.heap.size + 1 + 1]? = some (.cells #[.bool true] 4 (0, 0)) ∧ (∃ v ∈ pre, v.x.f0 = kd) ∧ Below w.heap.size w W) ?hI ?hIx ⟨hbk, hbr, fun v hv => (by cases hv), hb0, by omega⟩
    (fun x a' W => ∃ Bx, W0.heap.size ≤ Bx ∧ W.heap[Bx]? = some (.cells #[.int .i64 x.x.f0, .int .i64 x.x.f1, .string x.x.f2, .slice x.A3 x.x.f3.length x.c3, .slice x.A4 x.x.f4.length x.c4] 26 (0, 0)) ∧ a' = { tmps := #[Value.agg #[.int .i64 t.f0, .int .i64 t.f1, .string t.f2, .slice A3 t.f3.length c3, .slice A4 t.f4.length c4], .int .i64 kd, .pointer (some ⟨w.heap.size, 0, none⟩), .pointer (some ⟨w.heap.size + 1, 0, none⟩), .pointer (some ⟨w.heap.size + 1 + 1, 0, none⟩), .pointer (some ⟨Bx, 0, none⟩), Value.agg #[.int .i64 t.f0, .int .i64 t.f1, .string t.f2, .slice A3 t.f3.length c3, .slice A4 t.f4.length c4], .func (.func 100) #[] #[.pointer (some ⟨w.heap.size + 1 + 1 + 1, 0, none⟩)], x.enc, undef, undef, undef, undef], defers := [] }) ?hAx ?assign ?body ?done ?stop
  case hI =>
    rintro s A B row ⟨h1, h2, h3, h4, h5⟩ hg hr
    exact ⟨blk_grown h1 hg (fun e => by have := (hr _ e.symm).1; omega), blk_grown h2 hg (fun e => by have := (hr _ e.symm).1; omega), h3, h4.grown hg h4.size (fun r e => by have := (hr _ e).1; omega), Nat.le_trans h5 hg.size⟩
  case hIx =>
    rintro c s A B row ⟨h1, h2, h3, h4⟩ hg hr
    exact ⟨h1, blk_grown h2 hg (fun e => by have := (hr _ e.symm).1; omega), h3, h4.grown hg h4.size (fun r e => by have := (hr _ e).1; omega)⟩
  case hAx =>
    rintro x a' _ A B row ⟨Bx, h1, h2, h3⟩ hg hr
    refine ⟨Bx, h1, blk_grown h2 hg (fun e => ?_), h3⟩
    obtain ⟨_, o, ho, hc⟩ := hr _ e.symm
    rw [ho] at h2
    cases h2
    simp [Obj.isCells] at hc
  case assign =>
    intro l pre x W K hi hK
    have hi5 := hi.2.2.2.2
    simp only [NV.enc_eq] at hK ⊢
    gi_wp2
    exact hK _ _ ((KeepsOthers.alloc _ _).from _) ((KT.refl _ _).alloc (by omega) _) ⟨blk_alloc hi.1 _, blk_alloc hi.2.1 _, hi.2.2.1, hi.2.2.2.1.alloc (by omega) _, by simp; omega⟩ ⟨W.heap.size, by omega, blk_new _ _, by simp⟩
  case body =>
    rintro l pre x a' W hl _ ⟨h1, h2, h3, h4, h5⟩ ⟨Bx, hB1, hB2, rfl⟩ hlt
    have hc := blk_cell h1 0
    have hc2 := blk_cell h2 0
    have hf2 := blk_frozen h2 0
    have hcx := blk_cell hB2 0
    simp at hc hc2 hcx
    have H1 := Aside0.mk h1
    have H2 := Aside0.mk h2
    have H3 := Aside0.mk h3
    have H4 := Aside0.mk h4
    clear h1 h2 h3 h4 hB2
    simp only [NV.enc_eq]
    by_cases he : x.x.f0 = kd
    · have he' : (x.x.f0 == kd) = true := beq_iff_eq.2 he
      have HE := Aside0.mk he
      clear he
      gi_wp2
      refine ⟨(KeepsOthers.setCell _ _ _).from _, rfl, blk_put H2.out 0 _ rfl, ⟨x, by simp, HE.out⟩, H4.out.setCell (p := ⟨w.heap.size + 1 + 1, 0, none⟩) (by simp; omega) _⟩
    · have he' : (x.x.f0 == kd) = false := beq_eq_false_iff_ne.2 he
      have HE := Aside0.mk he
      clear he
      gi_wp2
      refine ⟨KeepsFrom.refl _ _, KT.refl _ _, H1.out, H2.out, fun v hv => ?_, H4.out, h5⟩
      rcases List.mem_append.1 hv with hv | hv
      · exact H3.out v hv
      · rw [List.mem_singleton.1 hv]; exact HE.out
  case done =>
    rintro D ys W hD hy ⟨h1, h2, h3, h4, h5⟩ hK
    have hcr := blk_cell h2 0
    have hfr := blk_frozen h2 0
    simp at hcr
    have HY := Aside0.mk (show hasT t kd = false from by
      unfold hasT; rw [← hy, List.any_map, List.any_eq_false]; exact fun v hv => by simpa using h3 v hv)
    have H2 := Aside0.mk h2
    clear h1 h2 h3 hy
    gi_wp2
    have hK' := (KeepsOthers.setCell W ⟨w.heap.size + 1 + 1, 0, none⟩ (.bool false)).same D _ hK rfl
    refine ⟨by simp, .inl ⟨_, _, rfl, run_takeDeferred hK', ?_⟩⟩
    have hc5 := cell_kept (show (W.setCell ⟨w.heap.size + 1 + 1, 0, none⟩ (.bool false)).cell? ⟨w.heap.size + 1 + 1, 0, none⟩ = some (.bool false) from blk_cell (blk_put H2.out 0 _ rfl) 0) (grownBy_putObj' _ D (.deferred none)) (fun r e => by cases e; exact ⟨_, hK', rfl⟩)
    refine ⟨.bool false, ?_, by rw [HY.out], ?_⟩
    · simp [results, Try.f31, go_sem, hc5]
    · exact (h4.setCell (p := ⟨w.heap.size + 1 + 1, 0, none⟩) (by simp; omega) _).trans (belowK_b (w := w) (Nat.le_refl _) _ D _ _ (by omega) hK' rfl rfl)
  case stop =>
    rintro D c pre W hD hp ⟨rfl, h2, ⟨v, hv, h3⟩, h4⟩ hK
    have HY := Aside0.mk (show hasT t kd = true from by
      unfold hasT; rw [List.any_eq_true]; exact ⟨v.x, hp.subset (List.mem_map.2 ⟨v, hv, rfl⟩), decide_eq_true h3⟩)
    have hc5 := cell_kept (show W.cell? ⟨w.heap.size + 1 + 1, 0, none⟩ = some (.bool true) from blk_cell h2 0) (grownBy_putObj' _ D (.deferred none)) (fun r e => by cases e; exact ⟨_, hK, rfl⟩)
    clear h2 h3 hp hv
    gi_wp2
    refine ⟨by simp, .inl ⟨_, _, rfl, run_takeDeferred hK, ?_⟩⟩
    refine ⟨.bool true, ?_, by rw [HY.out], ?_⟩
    · simp [results, Try.f31, go_sem, hc5]
    · exact h4.trans (belowK_b (w := w) (Nat.le_refl _) _ D _ _ (by omega) hK rfl rfl)
end Go.Proofs.Ytkeeknlfommieaa.PF
namespace Go.Proofs.Ytkeeknlfommieaa.PF
open Go.RowKit Go.Shelf Go.Sort Go.Proofs.YtkeeknlfommieaaW.PrintWords Go.Proofs.YtkeeknlfommieaaW.PrintLast Go.Proofs.YtkeeknlfommieaaW.PrintMore
attribute [local go_sem] Oper.semAt_some

/-- The names of the variables among types, in order. -/
def namesL (l : List S26) : List ByteArray := (l.filter fun x => decide (x.f0 = 6)).map S26.f2
def sortedVars (t : S26) : List (List UInt8) := Lib.compact ((bl (namesL (preT t))).mergeSort fun x y => decide (x ≤ y))
theorem namesL_snoc (l : List S26) (x : S26) : namesL (l ++ [x]) = namesL l ++ (if x.f0 = 6 then [x.f2] else []) := by
  unfold namesL
  rw [List.filter_append, List.map_append]
  by_cases h : x.f0 = 6 <;> simp [h]
theorem namesL_le (l : List S26) : (namesL l).length ≤ l.length := by unfold namesL; rw [List.length_map]; exact List.length_filter_le _ _
def namesV (pre : List NV) : List ByteArray := namesL (pre.map NV.x)
theorem namesV_yes (pre : List NV) (x : NV) (h : x.x.f0 = 6) : namesV (pre ++ [x]) = namesV pre ++ [x.x.f2] := by unfold namesV; rw [List.map_append]; exact (namesL_snoc _ _).trans (by rw [if_pos h])
theorem namesV_no (pre : List NV) (x : NV) (h : x.x.f0 ≠ 6) : namesV (pre ++ [x]) = namesV pre := by unfold namesV; rw [List.map_append]; exact (namesL_snoc _ _).trans (by rw [if_neg h, List.append_nil])
theorem namesV_le (pre : List NV) : (namesV pre).length ≤ pre.length := by unfold namesV; exact Nat.le_trans (namesL_le _) (by simp)
/-- What the loop holds: the variable 'out' owns the names so far. -/
def VarsInv (w : World) (pre : List NV) (W : World) : Prop :=
  (∃ v, Boxed W (w.heap.size + 1) 23 v ∧ W.ownsRow w.heap.size 9 1 v (namesV pre).length ((namesV pre).map Value.string) ∧ (v = .slice none 0 0 ↔ namesV pre = [])) ∧ Below w.heap.size w W ∧ w.heap.size + 3 ≤ W.heap.size
theorem varsInv_own (w : World) (B : Nat) (hB : w.heap.size ≤ B) : OwnFrom B (VarsInv w) := by
  rintro s X Y row ⟨h1, h2, h3⟩ hg hr
  exact ⟨holdsRow_own w.heap.size (w.heap.size + 1) 23 9 1 (fun pre => (namesV pre).length) (fun pre => (namesV pre).map Value.string) (fun pre v => (v = .slice none 0 0 ↔ namesV pre = [])) s X Y row h1 hg (fun r e => (hr r e).2), h2.grown hg h2.size (fun r e => by have := (hr _ e).1; omega), Nat.le_trans h3 hg.size⟩

theorem grownBy_putRow {α : Type} [Inhabited α] {enc : α → Value} (w : World) (q g : Nat) {d : Array α} : w.grownBy (putRow enc (Sort.ahead w q) g 0 d) (some g) := by
  refine ⟨rfl, rfl, rfl, by simp [putRow, mapBlock, Sort.ahead], fun k hk hne => ?_⟩
  have : g ≠ k := fun e => hne (by rw [e])
  simp [putRow, mapBlock, Sort.ahead, Array.getElem?_modify, this]
theorem vars_left {w w1 : World} {g cap n nn q : Nat} {os : Array Obj} {ss : List (List UInt8)} (hown : w1.ownsRow w.heap.size 9 1 (.slice (some ⟨g, 0, none⟩) n cap) n (ss.map encStr)) (hbel : Below w.heap.size w w1) (hbg : w.heap.size ≤ g) (hlen : ss.length = n) :
    (putRow encStr (Sort.ahead (grow (putRow encStr (Sort.ahead w1 nn) g 0 (ss.mergeSort fun x y => decide (x ≤ y)).toArray) os) q) g 0 (Lib.compact (ss.mergeSort fun x y => decide (x ≤ y)) ++ List.replicate (n - (Lib.compact (ss.mergeSort fun x y => decide (x ≤ y))).length) []).toArray).ownsRow w.heap.size 9 1 (.slice (some ⟨g, 0, none⟩) (Lib.compact (ss.mergeSort fun x y => decide (x ≤ y))).length cap) (Lib.compact (ss.mergeSort fun x y => decide (x ≤ y))).length ((Lib.compact (ss.mergeSort fun x y => decide (x ≤ y))).map encStr)
    ∧ Below w.heap.size w (putRow encStr (Sort.ahead (grow (putRow encStr (Sort.ahead w1 nn) g 0 (ss.mergeSort fun x y => decide (x ≤ y)).toArray) os) q) g 0 (Lib.compact (ss.mergeSort fun x y => decide (x ≤ y)) ++ List.replicate (n - (Lib.compact (ss.mergeSort fun x y => decide (x ≤ y))).length) []).toArray) := by
  have hl2 : (ss.mergeSort fun x y => decide (x ≤ y)).length = ss.length := List.length_mergeSort ss
  have hle := Lib.compact_length_le (ss.mergeSort fun x y => decide (x ≤ y))
  subst hlen
  rcases hown.2 with ⟨h0, _⟩ | ⟨g', cap', cur, hv, hbase, hb, h1, h2, h3, h4⟩
  · cases h0
  cases hv
  have hs := ownsRow_sorted (n := nn) (os := os) (ts := ss.mergeSort fun x y => decide (x ≤ y)) hl2 hbase hb h1 h2 h3
  have hc := Lib.ownsRow_putRow (q := q) (k := (Lib.compact (ss.mergeSort fun x y => decide (x ≤ y))).length) (ys := Lib.compact (ss.mergeSort fun x y => decide (x ≤ y)) ++ List.replicate (ss.length - (Lib.compact (ss.mergeSort fun x y => decide (x ≤ y))).length) []) hs (by simp; omega) (by omega)
  rw [List.take_left] at hc
  exact ⟨hc, Lib.below_putRow (hbel.grown (grownBy_sorted _) hbel.size (fun j hj => by cases hj; exact hbase)) hbg⟩
theorem c_of_own {w : World} {base n : Nat} {v : Value} {ls : List (List UInt8)} (h : w.ownsRow base 9 1 v n (ls.map encStr)) : ∃ A c, v = .slice A n c ∧ n ≤ c ∧ Kd.string.C w A n (ls.map fun l => ⟨l.toArray⟩) := by
  have hl : ls.length = n := by simpa using h.1
  have hR : Kd.string.R 9 w base (fun _ => True) v (ls.map fun l => (⟨l.toArray⟩ : ByteArray)) := ⟨fun _ _ => trivial, ls.map encStr, by rw [List.length_map, hl]; exact h, ⟨by simp [Kd.string, Kd.scalar], fun j p hj => by
    show ((ls.map encStr).drop (j * 1)).take 1 = [.string p]
    obtain ⟨hjl, hp⟩ := List.getElem?_eq_some_iff.1 hj
    have hjl' : j < ls.length := by simpa using hjl
    rw [Nat.mul_one, List.drop_eq_getElem_cons (by simpa using hjl')]
    simp at hp
    simp [← hp, encStr]⟩⟩
  obtain ⟨A, c, hv, hle, hC⟩ := Kd.R_reads hR
  rw [List.length_map, hl] at hv hle hC
  exact ⟨A, c, hv, hle, hC⟩

set_option maxRecDepth 100000 in
set_option maxHeartbeats 2000000 in
theorem vars_calls (t : S26) (w : World) (A3 : Option Addr) (c3 : Nat) (A4 : Option Addr) (c4 : Nat) (g4 : k26.C w A4 t.f4.length t.f4) (hbig : (preT t).length ≤ 4294967296) :
    Calls Try.prog 33 #[Value.agg #[.int .i64 t.f0, .int .i64 t.f1, .string t.f2, .slice A3 t.f3.length c3, .slice A4 t.f4.length c4]] w fun e w' => (∃ A c, e = .returned (.slice A (sortedVars t).length c) ∧ (sortedVars t).length ≤ c ∧ Kd.string.C w' A (sortedVars t).length ((sortedVars t).map fun l => ⟨l.toArray⟩)) ∧ Below w.heap.size w w' := by
  have HF := Aside0.mk (Kd.C_F k26_heap g4)
  have HBIG := Aside0.mk hbig
  clear g4 hbig
  refine (callsIn_wide (n := 3)).1 ?_
  refine callsIn_of_wp_marks Try.func33 rfl trivial ?_ rfl
  simp only [Try.ntmps33, List.size_toArray, List.length_cons, List.length_nil, Nat.reduceAdd, Nat.reduceSub, Array.replicate_succ, Array.replicate_zero, List.push_toArray, List.append_toArray, List.nil_append, List.cons_append]
  gi_wp2_with ((try first | refine ⟨trivial, fun h => (by cases h), ?_⟩ | refine ⟨trivial, ?_⟩); gi_at_call 68; refine (nodes_in _ _ ⟨_, _, _, _, _, rfl⟩ _).mono ?_; rintro e w' ⟨rfl, rfl⟩)
  have hbt := blk_new (((w.alloc (.cells #[.int .i64 t.f0, .int .i64 t.f1, .string t.f2, .slice A3 t.f3.length c3, .slice A4 t.f4.length c4] 26)).alloc (.cells #[.slice none 0 0] 23))) (.cells #[.int .i64 t.f0, .int .i64 t.f1, .string t.f2, .slice A3 t.f3.length c3, .slice A4 t.f4.length c4] 26)
  have hbo := blk_alloc (blk_new ((w.alloc (.cells #[.int .i64 t.f0, .int .i64 t.f1, .string t.f2, .slice A3 t.f3.length c3, .slice A4 t.f4.length c4] 26))) (.cells #[.slice none 0 0] 23)) (.cells #[.int .i64 t.f0, .int .i64 t.f1, .string t.f2, .slice A3 t.f3.length c3, .slice A4 t.f4.length c4] 26)
  simp only [World.size_alloc] at hbt hbo
  have hb0 : Below w.heap.size w ((((w.alloc (.cells #[.int .i64 t.f0, .int .i64 t.f1, .string t.f2, .slice A3 t.f3.length c3, .slice A4 t.f4.length c4] 26)).alloc (.cells #[.slice none 0 0] 23)).alloc (.cells #[.int .i64 t.f0, .int .i64 t.f1, .string t.f2, .slice A3 t.f3.length c3, .slice A4 t.f4.length c4] 26))) := below_alloc (below_alloc (below_alloc (Below.refl _ _) _) _) _
  obtain ⟨W0, hW0⟩ : ∃ W0, (((w.alloc (.cells #[.int .i64 t.f0, .int .i64 t.f1, .string t.f2, .slice A3 t.f3.length c3, .slice A4 t.f4.length c4] 26)).alloc (.cells #[.slice none 0 0] 23)).alloc (.cells #[.int .i64 t.f0, .int .i64 t.f1, .string t.f2, .slice A3 t.f3.length c3, .slice A4 t.f4.length c4] 26)) = W0 := ⟨_, rfl⟩
  have hsz : W0.heap.size = w.heap.size + 3 := by rw [← hW0]; simp
  rw [hW0] at hbt hbo hb0 ⊢
  refine wpIn_rangeFunc_ownH rfl (by omega) (gf := 100) (lb := #[.pointer (some ⟨w.heap.size + 1 + 1, 0, none⟩)]) rfl trivial (enters_of Try.func100 (by kernel_rfl) rfl)
    (nodes_stops _ t w.heap.size (w.heap.size + 1 + 1) A3 c3 A4 c4 W0 (by omega) hbt (Kd.F_step HF.out (fun b hb _ => hb0.block b hb))) (fun h k => h.trans k) (fun W l o o' hl h hc hw => kt_b (by omega) W l o o' hl h hc hw) (Below.refl _ _) (fun _ => rfl)
    (VarsInv w) (fun _ _ _ => False) (varsInv_own w _ (by omega)) (fun _ _ _ _ _ hs _ _ => hs) ⟨⟨_, hbo, World.ownsRow_nil _ _ _ _, by simp [namesV, namesL]⟩, hb0, by omega⟩
    (fun x a' W => ∃ Bx, W0.heap.size ≤ Bx ∧ W.heap[Bx]? = some (.cells #[.int .i64 x.x.f0, .int .i64 x.x.f1, .string x.x.f2, .slice x.A3 x.x.f3.length x.c3, .slice x.A4 x.x.f4.length x.c4] 26 (0, 0)) ∧ a' = { tmps := #[Value.agg #[.int .i64 t.f0, .int .i64 t.f1, .string t.f2, .slice A3 t.f3.length c3, .slice A4 t.f4.length c4], .pointer (some ⟨w.heap.size, 0, none⟩), .slice none 0 0, .pointer (some ⟨w.heap.size + 1, 0, none⟩), .pointer (some ⟨Bx, 0, none⟩), Value.agg #[.int .i64 t.f0, .int .i64 t.f1, .string t.f2, .slice A3 t.f3.length c3, .slice A4 t.f4.length c4], .func (.func 100) #[] #[.pointer (some ⟨w.heap.size + 1 + 1, 0, none⟩)], x.enc, undef, undef, undef, undef, undef, undef, undef, undef, undef, undef, undef, undef], defers := [] }) ?hAx ?assign ?body ?done ?stop
  case hAx =>
    rintro x a' _ A B row ⟨Bx, h1, h2, h3⟩ hg hr
    refine ⟨Bx, h1, blk_grown h2 hg (fun e => ?_), h3⟩
    obtain ⟨_, o, ho, hc⟩ := hr _ e.symm
    rw [ho] at h2
    cases h2
    simp [Obj.isCells] at hc
  case assign =>
    intro l pre x W K hi hK
    have hi5 := hi.2.2
    have HI := Aside0.mk hi
    clear hi
    simp only [NV.enc_eq] at hK ⊢
    gi_wp2
    refine hK _ _ ((KeepsOthers.alloc _ _).from _) ((KT.refl _ _).alloc (by omega) _) ?_ ⟨W.heap.size, by omega, blk_new _ _, by simp⟩
    exact varsInv_own w w.heap.size (Nat.le_refl _) _ _ _ none HI.out (World.grownBy_alloc _ _ none) (fun r e => by cases e)
  case body =>
    rintro l pre x a' W hl _ ⟨⟨v, hv, hrow, hnil⟩, hB, h5⟩ ⟨Bx, hB1, hB2, rfl⟩ hlt
    have hcx0 := blk_cell hB2 0
    have hcx2 := blk_cell hB2 2
    simp at hcx0 hcx2
    have HX := Aside0.mk hB2
    have HHB := Aside0.mk hB
    have HNIL := Aside0.mk hnil
    clear hB2 hnil
    simp only [NV.enc_eq]
    by_cases he : x.x.f0 = 6
    · have he' : (x.x.f0 == 6) = true := beq_iff_eq.2 he
      have HE := Aside0.mk he
      have hle := namesV_le pre
      have hbg := HBIG.out
      have hvc := hv.cell
      clear he
      obtain ⟨i0, hi, hz0, hz1, hz2⟩ := info_parts info9
      obtain ⟨nk, hnk⟩ : ∃ nk, (namesV pre).length = nk := ⟨_, rfl⟩
      rw [hnk] at hrow hle
      have HNK := Aside0.mk hnk
      clear hnk
      gi_wp2_with ((gi_at_builtin; refine wpListIn_append_own _ rfl _ _ 23 rfl w.heap.size 9 i0 (.string ⟨#[]⟩) 1 16 Try.underlying23 hi hz0 hz1 hz2 rfl (by decide) _ _ _ rfl (hrow.alloc _) ⟨W.heap.size, 0, none⟩ 1 1 [.string x.x.f2] rfl rfl (cell_one_new _ _ _) (by simp [Value.oneCell']) (by simp [maxLen]; omega) (by omega) (by have := hB.size; simp; omega) ?_; intro v' w1 hown' hgrow _; obtain ⟨g', cap', rfl⟩ := ownsRow_succ hown'; obtain ⟨hv1, hv2, hr2, hk2, hb2⟩ := hv.appended (by decide) hrow hB.size (Nat.le_succ _) hown' hgrow; have hc1 := hv1.cell; have hf1 := hv1.frozen))
      refine ⟨hk2.from _, ⟨hb2, fun b c hb => ?_⟩, ⟨⟨_, hv2, ?_, ?_⟩, HHB.out.trans hb2, ?_⟩⟩
      · have hne : some b ≠ v.ownBlock := fun e => by
          obtain ⟨cells, hc⟩ := own_typed hrow b e.symm
          rw [hc] at hb; cases hb
        have hne2 : b ≠ w.heap.size + 1 := fun e => by
          rw [e, show W.heap[w.heap.size + 1]? = _ from hv] at hb; cases hb
        exact (Below.heap_setCell _ _ _ _ hne2).trans (blk_grown (blk_alloc hb _) hgrow hne)
      · rw [namesV_yes _ _ HE.out, List.length_append, List.map_append, HNK.out]; exact hr2
      · rw [namesV_yes _ _ HE.out]; simp
      · have h_ := hk2.size; omega
    · have he' : (x.x.f0 == 6) = false := beq_eq_false_iff_ne.2 he
      have HE := Aside0.mk he
      have HR := Aside0.mk (And.intro hv hrow)
      clear he hv hrow
      gi_wp2
      refine ⟨KeepsFrom.refl _ _, KT.refl _ _, ⟨v, HR.out.1, ?_, ?_⟩, HHB.out, h5⟩
      · rw [namesV_no _ _ HE.out]; exact HR.out.2
      · rw [namesV_no _ _ HE.out]; exact HNIL.out
  case stop =>
    rintro D c pre W _ _ h _
    exact h.elim
  case done =>
    rintro D ys W hD hy ⟨⟨v, hv, hrow, hnil⟩, hB, h5⟩ hK
    have hvc := hv.cell
    have hny : namesV ys = namesL (preT t) := by unfold namesV; rw [hy]
    rw [hny] at hrow hnil
    have HV := Aside0.mk hv
    have HHB := Aside0.mk hB
    have HK := Aside0.mk hK
    clear hy hny hv hB hK
    by_cases hemp : namesL (preT t) = []
    · have hv0 : v = .slice none 0 0 := hnil.2 hemp
      subst hv0
      have HE := Aside0.mk (show sortedVars t = [] from by unfold sortedVars; rw [hemp]; simp only [bl, List.map_nil, List.mergeSort_nil]; rfl)
      clear hnil hemp hrow
      gi_wp2_with (first | ((try first | refine ⟨trivial, fun h => (by cases h), ?_⟩ | refine ⟨trivial, ?_⟩); gi_at_call 69; refine (callsIn_wide.2 (Try.slices_Sort_string_none none 0 W)).mono ?_; rintro e w' ⟨rfl, rfl⟩) | ((try first | refine ⟨trivial, fun h => (by cases h), ?_⟩ | refine ⟨trivial, ?_⟩); gi_at_call 70; refine (callsIn_wide.2 (Try.slices_Compact_string_empty none 0 _)).mono ?_; rintro e w' ⟨rfl, rfl⟩))
      refine ⟨by simp, .inl ⟨_, _, rfl, run_takeDeferred HK.out, ?_⟩⟩
      refine ⟨_, results_tmp rfl _ _ _, ⟨none, 0, ?_, ?_, ?_⟩, HHB.out.trans (belowK_b (w := w) (Nat.le_refl _) _ D _ _ (by omega) HK.out rfl rfl)⟩
      · rw [HE.out]; rfl
      · rw [HE.out]; exact Nat.le_refl _
      · rw [HE.out]; exact Kd.C_nil _ _
    · rw [← Lib.map_encStr] at hrow
      have hnn : v ≠ .slice none 0 0 := fun h => hemp (hnil.1 h)
      obtain ⟨g, cap, rfl, hbg, hgl, hncap, hcm, hlen, hH⟩ := Lib.holds_of_ownsRow hrow hnn
      obtain ⟨ss, hss⟩ : ∃ ss, (namesL (preT t)).map (·.data.toList) = ss := ⟨_, rfl⟩
      obtain ⟨n, hn⟩ : ∃ n, (namesL (preT t)).length = n := ⟨_, rfl⟩
      have HS := Aside0.mk (show sortedVars t = Lib.compact (ss.mergeSort fun x y => decide (x ≤ y)) from by unfold sortedVars bl; rw [hss])
      have hn4 : n ≤ 4294967296 := by rw [← hn]; exact Nat.le_trans (namesL_le _) HBIG.out
      rw [hss, hn] at hrow
      rw [hss] at hH
      rw [hss, hn] at hlen
      rw [hn] at hncap
      have hsort := Try.slices_Sort_string g 0 cap ss W hH hgl (by omega)
      have hl2 : (ss.mergeSort fun x y => decide (x ≤ y)).length = ss.length := List.length_mergeSort ss
      have hcomp := fun nn os => Try.slices_Compact_string g 0 cap (ss.mergeSort fun x y => decide (x ≤ y)) (grow (putRow encStr (Sort.ahead W nn) g 0 (ss.mergeSort fun x y => decide (x ≤ y)).toArray) os)
         (holds_grow encStr _ os g 0 _ (by simpa [putRow, mapBlock, Sort.ahead] using hgl) (holds_putRow encStr _ g 0 _ _ (holds_ahead encStr W nn g 0 _ hH) (by simp))) (by rw [hl2]; omega) (by rw [hl2]; omega)
      rw [hlen] at hsort
      rw [hlen] at hl2
      rw [hl2] at hcomp
      have HSO := Aside0.mk hsort
      have HCO := Aside0.mk hcomp
      have HOW := Aside0.mk (show W.ownsRow w.heap.size 9 1 (.slice (some ⟨g, 0, none⟩) n cap) n (ss.map encStr) from by rw [hn] at *; exact hrow)
      have HLE := Aside0.mk hlen
      rw [hn] at hvc HV
      have hgb : g ≠ w.heap.size + 1 := fun e => by
        obtain ⟨cells, hc⟩ := own_typed HOW.out g (by simp [Value.ownBlock])
        rw [e, show W.heap[w.heap.size + 1]? = _ from HV.out] at hc; cases hc
      clear hrow hnil hnn hH hss hn hsort hcomp hl2 hlen hemp
      gi_wp2_with fail
      (try first | refine ⟨trivial, fun h => (by cases h), ?_⟩ | refine ⟨trivial, ?_⟩)
      refine (callsIn_wide.2 HSO.out).mono ?_
      rintro e w2 ⟨rfl, nn, os, hw2⟩
      have HC2 := Aside0.mk (HCO.out nn os)
      rw [← hw2] at HC2
      have hvc2 : w2.cell? ⟨w.heap.size + 1, 0, none⟩ = some (.slice (some ⟨g, 0, none⟩) n cap) := by rw [hw2]; exact (HV.out.kept (grownBy_sorted _) (fun e => hgb (Option.some.inj e).symm)).cell
      have HW2 := Aside0.mk hw2
      clear hw2
      gi_wp2_with fail
      (try first | refine ⟨trivial, fun h => (by cases h), ?_⟩ | refine ⟨trivial, ?_⟩)
      refine (callsIn_wide.2 HC2.out).mono ?_
      rintro e w3 ⟨rfl, q, hw3⟩
      have HW3 := Aside0.mk hw3
      clear hw3
      gi_wp2
      have hg2 : W.grownBy w2 (some g) := by rw [HW2.out]; exact grownBy_sorted _
      have hg3 : w2.grownBy w3 (some g) := by rw [HW3.out]; exact grownBy_putRow _ _ _
      have hgD : some D ≠ some g := fun e => by
        obtain ⟨cells, hc⟩ := own_typed HOW.out g (by simp [Value.ownBlock])
        cases e; rw [HK.out] at hc; cases hc
      have hK3 : w3.heap[D]? = some (.deferred (some [])) := blk_grown (blk_grown HK.out hg2 hgD) hg3 hgD
      obtain ⟨h3o, h3b⟩ := vars_left (w := w) (w1 := W) (nn := nn) (os := os) (q := q) HOW.out HHB.out hbg HLE.out
      rw [← HW2.out, ← HW3.out] at h3o h3b
      refine ⟨by simp, .inl ⟨_, _, rfl, run_takeDeferred hK3, ?_⟩⟩
      have h4 := ownsRow_putObj h3o (.deferred none) hK3 rfl
      obtain ⟨A, c, hv, hle, hC⟩ := c_of_own h4
      refine ⟨_, results_tmp rfl _ _ _, ⟨A, c, ?_, ?_, ?_⟩, h3b.trans (belowK_b (w := w) (Nat.le_refl _) _ D _ _ (by omega) hK3 rfl rfl)⟩
      · rw [HS.out]; exact congrArg Ending.returned hv
      · rw [HS.out]; exact hle
      · rw [HS.out]; exact hC
end Go.Proofs.Ytkeeknlfommieaa.PF
namespace Go.Proofs.Ytkeeknlfommieaa.PF
open Go.RowKit Go.Shelf Go.Sort Go.Proofs.YtkeeknlfommieaaW.PrintWords Go.Proofs.YtkeeknlfommieaaW.PrintLast Go.Proofs.YtkeeknlfommieaaW.PrintMore

theorem info89 : (Try.prog.info? 89).map (fun i => (i.zero, i.size, i.bytes)) = some (some (.agg #[(.string ⟨#[]⟩), (.int .i64 0), (.int .i64 0), (.string ⟨#[]⟩), (.slice none 0 0), (.slice none 0 0)]), 6, 96) := by kernel_rfl

/-- The fields that two lists of the same length make, as their cells hold them. -/
structure Fields (w : World) (A B : Option Addr) (ls : List ByteArray) (ar : List S26) (es : List FE) : Prop where
  l : es.map FE.l = ls
  x : es.map (fun e => e.v.x) = ar
  rt : ∀ e ∈ es, RT w e.v.enc e.v.x
  cl : ∀ (i : Nat) (hi : i < es.length), ∃ ad bd, A = some ad ∧ B = some bd ∧ w.cell? (ad.add i) = some (.string es[i].l) ∧ w.cell? (bd.add (i * 5)) = some (.int .i64 es[i].v.x.f0) ∧ w.cell? ⟨(bd.add (i * 5)).block, (bd.add (i * 5)).off + 1, none⟩ = some (.int .i64 es[i].v.x.f1) ∧ w.cell? ⟨(bd.add (i * 5)).block, (bd.add (i * 5)).off + 2, none⟩ = some (.string es[i].v.x.f2) ∧ w.cell? ⟨(bd.add (i * 5)).block, (bd.add (i * 5)).off + 3, none⟩ = some (.slice es[i].v.A3 es[i].v.x.f3.length es[i].v.c3) ∧ w.cell? ⟨(bd.add (i * 5)).block, (bd.add (i * 5)).off + 4, none⟩ = some (.slice es[i].v.A4 es[i].v.x.f4.length es[i].v.c4)
theorem fields_of {w : World} {A B : Option Addr} {ls : List ByteArray} {ar : List S26} (h3 : Kd.string.C w A ls.length ls) (h4 : k26.C w B ar.length ar) (hl : ls.length = ar.length) : ∃ es, Fields w A B ls ar es := by
  have hf : ∀ i : Fin ar.length, ∃ v : NV, v.x = ar[i.val] ∧ RT w v.enc v.x ∧ ∃ bd, B = some bd ∧ w.cell? (bd.add (i.val * 5)) = some (.int .i64 v.x.f0) ∧ w.cell? ⟨(bd.add (i.val * 5)).block, (bd.add (i.val * 5)).off + 1, none⟩ = some (.int .i64 v.x.f1) ∧ w.cell? ⟨(bd.add (i.val * 5)).block, (bd.add (i.val * 5)).off + 2, none⟩ = some (.string v.x.f2) ∧ w.cell? ⟨(bd.add (i.val * 5)).block, (bd.add (i.val * 5)).off + 3, none⟩ = some (.slice v.A3 v.x.f3.length v.c3) ∧ w.cell? ⟨(bd.add (i.val * 5)).block, (bd.add (i.val * 5)).off + 4, none⟩ = some (.slice v.A4 v.x.f4.length v.c4) := by
    intro i
    obtain ⟨ad, A3, c3, A4, c4, e, h0, h1, h2, h3', h4', l3, g3, l4, g4⟩ := el26 h4 i.val i.isLt
    exact ⟨⟨ar[i.val], A3, c3, A4, c4⟩, rfl, ⟨A3, c3, A4, c4, rfl, l3, g3, l4, g4⟩, ad, e, h0, h1, h2, h3', h4'⟩
  have hf2 := fun i => Classical.choose_spec (hf i)
  obtain ⟨f, hff⟩ : ∃ f : Fin ar.length → NV, ∀ i, f i = Classical.choose (hf i) := ⟨_, fun _ => rfl⟩
  simp only [← hff] at hf2
  refine ⟨List.ofFn fun i : Fin ar.length => ⟨ls[i.val]'(by omega), f i⟩, ?_, ?_, ?_, ?_⟩
  · apply List.ext_getElem
    · simp [hl]
    · intro i h1 h2; simp
  · apply List.ext_getElem
    · simp
    · intro i h1 h2; simp [(hf2 _).1]
  · intro e he
    obtain ⟨i, rfl⟩ := List.mem_ofFn.1 he
    exact (hf2 i).2.1
  · intro i hi
    have hi' : i < ar.length := by simpa using hi
    obtain ⟨ad, e1, h1⟩ := elS h3 i (by omega)
    obtain ⟨bd, e2, h2⟩ := (hf2 ⟨i, hi'⟩).2.2
    refine ⟨ad, bd, e1, e2, ?_, ?_⟩
    · simpa using h1
    · simpa using h2
theorem Fields.len {w : World} {A B : Option Addr} {ls : List ByteArray} {ar : List S26} {es : List FE} (h : Fields w A B ls ar es) : es.length = ls.length ∧ es.length = ar.length := by
  rw [← h.l, ← h.x]; simp

theorem flat_get (es : List FE) : ∀ t, t < es.length * 6 → (es.flatMap FE.enc)[t]! = (FE.enc (es.toArray[t / 6]!))[t % 6]! := by
  induction es with
  | nil => intro t h; simp at h
  | cons e es ih =>
    intro t h
    rw [List.flatMap_cons]
    by_cases ht : t < 6
    · rw [show t / 6 = 0 by omega, show t % 6 = t by omega]
      simp only [getElem!_def, List.getElem?_append_left (show t < e.enc.length from ht)]
      simp
    · obtain ⟨s, rfl⟩ : ∃ s, t = s + 6 := ⟨t - 6, by omega⟩
      have := ih s (by simp at h; omega)
      rw [show (s + 6) / 6 = s / 6 + 1 by omega, show (s + 6) % 6 = s % 6 by omega]
      simp only [getElem!_def] at this ⊢
      rw [List.getElem?_append_right (show e.enc.length ≤ s + 6 by show 6 ≤ s + 6; omega), show s + 6 - e.enc.length = s from Nat.add_sub_cancel s 6, this]
      simp
theorem own_holds {W : World} {base g n cap : Nat} {es : List FE} (h : W.ownsRow base 89 6 (.slice (some ⟨g, 0, none⟩) n cap) n (es.flatMap FE.enc)) (hn : es.length = n) : HoldsK FE.enc 6 W g 0 es.toArray ∧ g < W.heap.size := by
  refine ⟨?_, (h.lt g rfl).2⟩
  intro j hj
  have hj' : j < n * 6 := by simpa [hn] using hj
  rw [Nat.zero_add, h.cellAt j hj', h.frozenAt j]
  refine ⟨?_, rfl⟩
  rw [get_flatK _ _ _ _ (by simpa [hn] using hj'), ← flat_get es j (by omega)]
  have hl : j < (es.flatMap FE.enc).length := by rw [h.1]; exact hj'
  rw [List.getElem?_eq_getElem hl]
  show some _ = some ((es.flatMap FE.enc)[j]!)
  rw [getElem!_pos (es.flatMap FE.enc) j hl]
theorem grownBy_sortK {α : Type} [Inhabited α] {enc : α → List Value} {kk : Nat} (w : World) (q g : Nat) (d : Array α) (os : Array Obj) : w.grownBy (sortWorldK enc kk w g 0 q d os) (some g) := by
  unfold sortWorldK putRowK
  refine ⟨rfl, rfl, rfl, by simp [putRow, mapBlock, Sort.ahead, grow], fun k hk hne => ?_⟩
  have : g ≠ k := fun e => hne (by rw [e])
  have hk' : k < (putRow id (Sort.ahead w q) g 0 (flatK enc kk d)).heap.size := by simpa [putRow, mapBlock, Sort.ahead] using hk
  simp only [grow]
  rw [Array.getElem?_append_left hk']
  simp [putRow, mapBlock, Sort.ahead, Array.getElem?_modify, this]
theorem cS_of_own {w : World} {base n : Nat} {v : Value} {ls : List ByteArray} (h : w.ownsRow base 9 1 v n (ls.map Value.string)) : ∃ A c, v = .slice A n c ∧ n ≤ c ∧ Kd.string.C w A n ls := by
  have := c_of_own (ls := ls.map fun s => s.data.toList) (by rw [List.map_map]; exact h)
  rw [List.map_map] at this
  obtain ⟨A, c, e, hl, hC⟩ := this
  refine ⟨A, c, e, hl, ?_⟩
  have he : (List.map ((fun l => (⟨l.toArray⟩ : ByteArray)) ∘ fun s => s.data.toList) ls) = ls := by
    conv => rhs; rw [← List.map_id ls]
    exact List.map_congr_left fun s _ => rfl
  rwa [he] at hC

def FE.enc5 (e : FE) : List Value := [.int .i64 e.v.x.f0, .int .i64 e.v.x.f1, .string e.v.x.f2, .slice e.v.A3 e.v.x.f3.length e.v.c3, .slice e.v.A4 e.v.x.f4.length e.v.c4]
theorem flat5_get (es : List FE) : ∀ (j : Nat) (hj : j < es.length) (i : Nat), i < 5 → (es.flatMap FE.enc5)[j * 5 + i]? = (es[j].enc5)[i]? := by
  induction es with
  | nil => intro j h; simp at h
  | cons e es ih =>
    intro j hj i hi
    rw [List.flatMap_cons]
    cases j with
    | zero => rw [List.getElem?_append_left (by show 0 * 5 + i < 5; omega)]; simp
    | succ j =>
      rw [List.getElem?_append_right (by show 5 ≤ (j + 1) * 5 + i; omega), show (j + 1) * 5 + i - e.enc5.length = j * 5 + i by show (j + 1) * 5 + i - 5 = j * 5 + i; omega]
      simpa using ih j (by simpa using hj) i hi
theorem c26_of_own {w : World} {base n : Nat} {v : Value} {es : List FE} (h : w.ownsRow base 26 5 v n (es.flatMap FE.enc5)) (hn : es.length = n) (hmax : n ≤ 9223372036854775807) (hrt : ∀ e ∈ es, RT w e.v.enc e.v.x) : ∃ A c, v = .slice A n c ∧ n ≤ c ∧ k26.C w A n (es.map fun e => e.v.x) := by
  rcases h.2 with ⟨rfl, h0⟩ | ⟨g, cap, cur, rfl, _, hg, h1, h2, h3, h4⟩
  · subst h0
    obtain rfl : es = [] := List.eq_nil_of_length_eq_zero hn
    exact ⟨none, 0, rfl, Nat.le_refl _, Kd.C_nil _ _⟩
  · refine ⟨_, cap, rfl, h1, by simp [hn], hmax, fun _ => ⟨_, rfl, fun j p hj => ?_⟩⟩
    obtain ⟨hjl, hp⟩ := List.getElem?_eq_some_iff.1 hj
    have hjl' : j < es.length := by simpa using hjl
    rw [List.getElem_map] at hp
    subst hp
    obtain ⟨A3, c3, A4, c4, e, l3, g3, l4, g4⟩ := hrt es[j] (List.getElem_mem hjl')
    simp [NV.enc] at e
    obtain ⟨⟨rfl, rfl⟩, rfl, rfl⟩ := e
    refine ⟨es[j].enc5, rfl, k26_mk w es[j].v.x l3 g3 l4 g4, fun i u hu => ?_⟩
    have hi : i < 5 := by have := (List.getElem?_eq_some_iff.1 hu).1; exact this
    rw [show (⟨g, 0, none⟩ : Addr).add (j * k26.sz + i) = ⟨g, j * 5 + i, none⟩ from add_plain g _]
    rw [h.cellAt (j * 5 + i) (by omega), flat5_get es j hjl' i hi]
    exact hu
theorem row_ne {w : World} {b b' : Nat} {e e' : TypeId} {s s' n n' : Nat} {v v' : Value} {xs xs' : List Value} (h : w.ownsRow b e s v n xs) (h' : w.ownsRow b' e' s' v' n' xs') (hne : e ≠ e') : v.ownBlock = none ∨ v.ownBlock ≠ v'.ownBlock := by
  rcases hv : v.ownBlock with _ | k
  · exact .inl rfl
  · refine .inr fun e => ?_
    obtain ⟨c, hc⟩ := own_typed h k hv
    obtain ⟨c', hc'⟩ := own_typed h' k e.symm
    rw [hc] at hc'
    injection hc' with hc'
    injection hc' with _ h2 _
    exact hne h2

/-- What the sort leaves: a row of fields at A, in the order of their labels. -/
structure Row (W W2 : World) (base : Nat) (A : Option Addr) (es es' : List FE) : Prop where
  low : Below base W W2
  perm : es'.Perm es
  sorted : es'.Pairwise fun a b => ¬ b.l.data.toList < a.l.data.toList
  cl : ∀ (i : Nat) (hi : i < es'.length), ∃ ad, A = some ad ∧ W2.cell? (ad.add (i * 6)) = some (.string es'[i].l) ∧ W2.cell? ⟨(ad.add (i * 6)).block, (ad.add (i * 6)).off + 1, none⟩ = some (.int .i64 es'[i].v.x.f0) ∧ W2.cell? ⟨(ad.add (i * 6)).block, (ad.add (i * 6)).off + 2, none⟩ = some (.int .i64 es'[i].v.x.f1) ∧ W2.cell? ⟨(ad.add (i * 6)).block, (ad.add (i * 6)).off + 3, none⟩ = some (.string es'[i].v.x.f2) ∧ W2.cell? ⟨(ad.add (i * 6)).block, (ad.add (i * 6)).off + 4, none⟩ = some (.slice es'[i].v.A3 es'[i].v.x.f3.length es'[i].v.c3) ∧ W2.cell? ⟨(ad.add (i * 6)).block, (ad.add (i * 6)).off + 5, none⟩ = some (.slice es'[i].v.A4 es'[i].v.x.f4.length es'[i].v.c4)
theorem add_off (g m c : Nat) : (⟨((⟨g, 0, none⟩ : Addr).add m).block, ((⟨g, 0, none⟩ : Addr).add m).off + c, none⟩ : Addr) = ⟨g, 0 + m + c, none⟩ := by rw [add_plain]; simp
theorem sort_any {hi : Nat} (hs : SortOK hi) {W : World} {base n : Nat} {v : Value} {es : List FE} (hO : W.ownsRow base 89 6 v n (es.flatMap FE.enc)) (hlen : es.length = n) (hn : n ≤ hi) (hnil : n = 0 → v = .slice none 0 0) (hbase : base ≤ W.heap.size) :
    ∃ A cap, v = .slice A n cap ∧ Calls Try.prog 74 #[.slice A n cap, .func (.func 75) #[] #[]] W fun e W2 => e = .returned (.tuple #[]) ∧ ∃ es', Row W W2 base A es es' := by
  by_cases h0 : n = 0
  · obtain rfl : es = [] := List.eq_nil_of_length_eq_zero (by omega)
    subst h0
    refine ⟨none, 0, hnil rfl, (sort_none 0 W).mono ?_⟩
    rintro e w' ⟨rfl, rfl⟩
    exact ⟨rfl, [], Below.refl _ _, List.Perm.refl _, List.Pairwise.nil, fun i hi => by simp at hi⟩
  · rcases hO.2 with ⟨_, h⟩ | ⟨g, cap, cur, rfl, hg, _⟩
    · exact absurd h h0
    · obtain ⟨hH, hlt⟩ := own_holds hO hlen
      have hd : es.toArray.size = n := by simp [hlen]
      have hc := hs g cap es.toArray W hH hlt (by omega) (by omega)
      rw [hd] at hc
      refine ⟨some ⟨g, 0, none⟩, cap, rfl, hc.mono ?_⟩
      rintro e w' ⟨rfl, d', q, os, hP, hS, rfl⟩
      have hsz : d'.size = n := by rw [hP.1]; exact hd
      refine ⟨rfl, d'.toList, ?_, ?_, ?_, ?_⟩
      · exact (Below.refl base W).grown (grownBy_sortK _ _ _ _ _) hbase (fun j hj => by cases hj; exact hg)
      · have h1 := hP.2.2
        rw [Array.extract_eq_self_of_le (by omega), Array.extract_eq_self_of_le (by omega)] at h1
        exact h1
      · rw [List.pairwise_iff_getElem]
        intro i j hi hj hij
        have h1 := hS i j (Nat.zero_le _) hij (by simpa [hsz, hlen] using hj)
        rw [ltcf, decide_eq_false_iff_not] at h1
        have hi' : i < d'.size := by simpa using hi
        have hj' : j < d'.size := by simpa using hj
        simpa [getElem!_pos d' i hi', getElem!_pos d' j hj'] using h1
      · intro i hi
        have hi' : i < d'.size := by simpa using hi
        have hH2 := holdsK_sortWorldK FE.enc 6 W g 0 q es.toArray d' os hlt hH (by rw [hsz, hd])
        have hcl : ∀ c, c < 6 → (sortWorldK FE.enc 6 W g 0 q d' os).cell? ⟨g, 0 + i * 6 + c, none⟩ = some (FE.enc d'[i]!)[c]! := fun c hc => (hH2.cell hi' hc).1
        have he : d'[i]! = d'.toList[i] := by simp [getElem!_pos d' i hi']
        rw [he] at hcl
        refine ⟨_, rfl, ?_, ?_, ?_, ?_, ?_, ?_⟩
        · have h_ := hcl 0 (by omega); rw [show 0 + i * 6 + 0 = i * 6 by omega] at h_; rw [add_plain]; exact h_
        · rw [add_off]; exact hcl 1 (by omega)
        · rw [add_off]; exact hcl 2 (by omega)
        · rw [add_off]; exact hcl 3 (by omega)
        · rw [add_off]; exact hcl 4 (by omega)
        · rw [add_off]; exact hcl 5 (by omega)

theorem grownBy_set (w : World) (g i : Nat) (u : Value) : w.grownBy (w.setCell ⟨g, i, none⟩ u) (some g) :=
  ⟨rfl, rfl, rfl, by simp, fun k _ hne => Below.heap_setCell w ⟨g, i, none⟩ u k (fun e => hne (by rw [e]))⟩
theorem own_far {w : World} {T : Nat} {e : TypeId} {size n : Nat} {v : Value} {xs : List Value} (h : w.ownsRow (T + 1) e size v n xs) : v.ownBlock = none ∨ v.ownBlock ≠ some T := by
  rcases hv : v.ownBlock with _ | k
  · exact .inl rfl
  · refine .inr fun e => ?_
    injection e with e
    have := (h.lt k hv).1
    omega
/-- A round of the record's second loop: both rows one longer. -/
theorem round2 {W2 wr w1 w2 : World} {T k g1 cap1 g2 cap2 : Nat} {vL vA : Value} {xl xa nl na : List Value} {o : Obj} {a b c : Value}
    (HB2 : Below T W2 wr) (HSZ : T + 1 ≤ wr.heap.size) (HTB : wr.heap[T]? = some (.cells #[a, b, c, vL, vA] 26 (0, 0))) (HVL : wr.ownsRow (T + 1) 9 1 vL k xl) (HVA : wr.ownsRow (T + 1) 26 5 vA k xa)
    (HO1 : w1.ownsRow (T + 1) 9 1 (.slice (some ⟨g1, 0, none⟩) (k + 1) cap1) (k + 1) nl) (HB1 : Below (T + 1) (wr.alloc o) w1) (HG1 : (wr.alloc o).grownBy w1 vL.ownBlock)
    (HO2 : w2.ownsRow (T + 1) 26 5 (.slice (some ⟨g2, 0, none⟩) (k + 1) cap2) (k + 1) na) (HB3 : Below (T + 1) (w1.setCell ⟨T, 3, none⟩ (.slice (some ⟨g1, 0, none⟩) (k + 1) cap1)) w2) (HG2 : (w1.setCell ⟨T, 3, none⟩ (.slice (some ⟨g1, 0, none⟩) (k + 1) cap1)).grownBy w2 vA.ownBlock) :
    (w2.setCell ⟨T, 4, none⟩ (.slice (some ⟨g2, 0, none⟩) (k + 1) cap2)).heap[T]? = some (.cells #[a, b, c, .slice (some ⟨g1, 0, none⟩) (k + 1) cap1, .slice (some ⟨g2, 0, none⟩) (k + 1) cap2] 26 (0, 0))
    ∧ (w2.setCell ⟨T, 4, none⟩ (.slice (some ⟨g2, 0, none⟩) (k + 1) cap2)).ownsRow (T + 1) 9 1 (.slice (some ⟨g1, 0, none⟩) (k + 1) cap1) (k + 1) nl
    ∧ (w2.setCell ⟨T, 4, none⟩ (.slice (some ⟨g2, 0, none⟩) (k + 1) cap2)).ownsRow (T + 1) 26 5 (.slice (some ⟨g2, 0, none⟩) (k + 1) cap2) (k + 1) na
    ∧ Below T W2 (w2.setCell ⟨T, 4, none⟩ (.slice (some ⟨g2, 0, none⟩) (k + 1) cap2)) ∧ T + 1 ≤ (w2.setCell ⟨T, 4, none⟩ (.slice (some ⟨g2, 0, none⟩) (k + 1) cap2)).heap.size := by
  have hT1 : w1.heap[T]? = some (.cells #[a, b, c, vL, vA] 26 (0, 0)) := (HB1.block T (Nat.lt_succ_self T)).trans (blk_alloc HTB _)
  have hT2 := blk_put hT1 3 (.slice (some ⟨g1, 0, none⟩) (k + 1) cap1) rfl
  have hT3 := (HB3.block T (Nat.lt_succ_self T)).trans hT2
  have hA1 := ((HVA.alloc o).kept HG1 (row_ne HVA HVL (by decide))).kept (grownBy_set w1 T 3 (.slice (some ⟨g1, 0, none⟩) (k + 1) cap1)) (own_far HVA)
  have hL1 := HO1.kept (grownBy_set w1 T 3 (.slice (some ⟨g1, 0, none⟩) (k + 1) cap1)) (own_far HO1)
  refine ⟨blk_put hT3 4 _ rfl, (hL1.kept HG2 (row_ne hL1 hA1 (by decide))).kept (grownBy_set _ _ _ _) (own_far HO1), HO2.kept (grownBy_set _ _ _ _) (own_far HO2), ?_, ?_⟩
  · exact ((((HB2.alloc (by omega) o).trans (HB1.mono (Nat.le_succ T))).setCell (p := ⟨T, 3, none⟩) (Nat.le_refl T) _).trans (HB3.mono (Nat.le_succ T))).setCell (p := ⟨T, 4, none⟩) (Nat.le_refl T) _
  · have h1 := HB1.size
    have h2 := HB3.size
    simp only [World.size_alloc, World.size_setCell] at h1 h2 ⊢
    omega

theorem grownBy_below {w w1 : World} (h : Below w.heap.size w w1) : w.grownBy w1 none := ⟨h.os, h.tape, h.output, h.size, fun k hk _ => h.block k hk⟩
theorem own_set {w : World} {T g i : Nat} {e : TypeId} {size n : Nat} {v u : Value} {xs : List Value} (h : w.ownsRow (T + 1) e size v n xs) (hg : g ≤ T) : (w.setCell ⟨g, i, none⟩ u).ownsRow (T + 1) e size v n xs :=
  h.kept (grownBy_set w g i u) (by
    rcases hv : v.ownBlock with _ | k
    · exact .inl rfl
    · refine .inr fun e => ?_
      injection e with e
      have := (h.lt k hv).1
      omega)
theorem own_put5 {w : World} {T g : Nat} {e : TypeId} {size n : Nat} {v b0 b1 b2 b3 b4 : Value} {xs : List Value} (h : w.ownsRow (T + 1) e size v n xs) (hg : g ≤ T) :
    (((((w.setCell ⟨g, 0, none⟩ b0).setCell ⟨g, 1, none⟩ b1).setCell ⟨g, 2, none⟩ b2).setCell ⟨g, 3, none⟩ b3).setCell ⟨g, 4, none⟩ b4).ownsRow (T + 1) e size v n xs :=
  own_set (own_set (own_set (own_set (own_set h hg) hg) hg) hg) hg
theorem rec_reads {w w1 : World} {T n c : Nat} {A B : Option Addr} {cb : Nat} {es : List FE} (h1 : w1.ownsRow (T + 1) 9 1 (.slice A n c) n ((es.map FE.l).map Value.string)) (h2 : w1.ownsRow (T + 1) 26 5 (.slice B n cb) n (es.flatMap FE.enc5))
    (hn : es.length = n) (hmax : n ≤ 9223372036854775807) (hrt : ∀ e ∈ es, RT w e.v.enc e.v.x) (hb : Below w.heap.size w w1) :
    RT w1 (.agg #[.int .i64 8, .int .i64 0, .string ⟨#[]⟩, .slice A n c, .slice B n cb]) ⟨8, 0, ⟨#[]⟩, es.map FE.l, es.map fun e => e.v.x⟩ := by
  obtain ⟨A', c', e1, l1, C1⟩ := cS_of_own h1
  obtain ⟨B', d', e2, l2, C2⟩ := c26_of_own h2 hn hmax (fun e he => (hrt e he).below hb)
  cases e1
  cases e2
  subst hn
  refine ⟨A, c, B, cb, ?_, ?_, ?_, ?_, ?_⟩ <;> simp only [List.length_map] <;> assumption

/-- The record of fields, in the order of their labels, where those rise. -/
def recOf (ps : List (ByteArray × S26)) : S26 × Bool := if risingN (bl (ps.map Prod.fst)) = true then (⟨8, 0, ⟨#[]⟩, ps.map Prod.fst, ps.map Prod.snd⟩, true) else (z26, false)
def leP (a b : ByteArray × S26) : Bool := decide (a.1.data.toList ≤ b.1.data.toList)
def recT (ls : List ByteArray) (ar : List S26) : S26 × Bool := if ls.length = ar.length then recOf ((ls.zip ar).mergeSort leP) else (z26, false)
end Go.Proofs.Ytkeeknlfommieaa.PF
