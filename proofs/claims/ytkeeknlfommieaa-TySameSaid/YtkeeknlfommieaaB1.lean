/- slices.IndexFunc, slices.ContainsFunc over types, ty.Right's literal: contracts, for every function value that answers as a plain function. -/
import Derived.Test.YtkeeknlfommieaaB0
import Derived.Shelf.Abstract
namespace Go.Proofs.Ytkeeknlfommieaa.PF
open Go.RowKit Go.Proofs.YtkeeknlfommieaaW.PrintWords Go.Proofs.YtkeeknlfommieaaW.PrintLast Go.Proofs.YtkeeknlfommieaaW.PrintMore

/-- The first place at which p holds, from i on; -1. -/
def idxT (p : S26 → Bool) : List S26 → Nat → Int
  | [], _ => -1
  | x :: l, i => if p x then i else idxT p l (i + 1)

theorem idxT_drop (p : S26 → Bool) (xs : List S26) (i : Nat) (h : i < xs.length) : idxT p (xs.drop i) i = if p xs[i] then (i : Int) else idxT p (xs.drop (i + 1)) (i + 1) := by
  rw [List.drop_eq_getElem_cons h, idxT]

/-- A function value that answers p of what reads as a type of xs. -/
def PredT (g : FuncId) (lb : Array Value) (p : S26 → Bool) (xs : List S26) (w : World) : Prop :=
  ∀ x ∈ xs, ∀ (W : World) (A3 : Option Addr) (c3 : Nat) (A4 : Option Addr) (c4 : Nat), Below w.heap.size w W → x.f3.length ≤ c3 → Kd.string.C W A3 x.f3.length x.f3 → x.f4.length ≤ c4 → k26.C W A4 x.f4.length x.f4 →
    Calls Try.prog g (#[.agg #[.int .i64 x.f0, .int .i64 x.f1, .string x.f2, .slice A3 x.f3.length c3, .slice A4 x.f4.length c4]] ++ lb) W fun e W' => e = .returned (.bool (p x)) ∧ Below W.heap.size W W'

set_option maxRecDepth 100000 in
set_option maxHeartbeats 400000 in
theorem indexFunc_calls (g : FuncId) (p : S26 → Bool) (xs : List S26) (A : Option Addr) (c : Nat) (w : World) (hr : k26.C w A xs.length xs) (eg : ∀ args w, (callFunc g args).run Try.prog w = .ok (.enter g args) w) (hp : PredT g #[] p xs w) :
    Calls Try.prog 97 #[.slice A xs.length c, .func (.func g) #[] #[]] w fun e w' => e = .returned (.int .i64 (idxT p xs 0)) ∧ Below w.heap.size w w' := by
  have HR := Aside0.mk hr
  have hlen := hr.2.1
  clear hr
  have HP := Aside0.mk hp
  clear hp
  go_enter Try.func97, Try.ntmps97
  go_wp2_with fail
  go_loopg [8] xs.length (fun gk i wr => ∃ k : Nat, gk + k = xs.length ∧ i = .int .i64 k ∧ Aside0 (idxT p xs 0 = idxT p (xs.drop k) k) ∧ Aside0 (Below w.heap.size w wr))
  case atStart => exact ⟨0, rfl, rfl, ⟨rfl⟩, ⟨Below.refl _ _⟩⟩
  case round =>
    obtain ⟨k, hk, rfl, HI, HB⟩ := hrel
    have HK := Aside0.mk hk
    clear hk
    by_cases hlt : k < xs.length
    · have hltZ : ((k : Int) < (xs.length : Int)) := by omega
      obtain ⟨ad, A3, c3, A4, c4, e, h0, h1, h2, h3, h4, l3, g3, l4, g4⟩ := el26 HR.out k hlt
      cases e
      replace h0 := pw_cell_below HB.out h0
      replace h1 := pw_cell_below HB.out h1
      replace h2 := pw_cell_below HB.out h2
      replace h3 := pw_cell_below HB.out h3
      replace h4 := pw_cell_below HB.out h4
      have HC := HP.out xs[k] (List.getElem_mem hlt) wr A3 c3 A4 c4 HB.out l3 (Kd.C_below g3 HB.out) l4 (Kd.C_below g4 HB.out)
      have HI' := idxT_drop p xs k hlt
      have hl3 := Aside0.mk l3
      clear l3 g3 l4 g4
      generalize hy : xs[k] = y at *
      have HY := Aside0.mk hy
      clear hy
      cases hq : p y with
      | true =>
        rw [hq] at HC HI'
        have HI2 := Aside0.mk HI'
        clear HI' hq
        go_wp2_with (go_at_fn g; refine HC.mono ?_; rintro e w' ⟨rfl, hb'⟩)
        go_ret
        exact ⟨by rw [HI.out, HI2.out]; rfl, HB.out.trans (hb'.mono HB.out.size)⟩
      | false =>
        rw [hq] at HC HI'
        have HI2 := Aside0.mk HI'
        clear HI' hq
        go_wp2_with (go_at_fn g; refine HC.mono ?_; rintro e w' ⟨rfl, hb'⟩)
        go_roundg (gk - 1)
        case measure => have := HK.out; omega
        case rel => exact ⟨k + 1, by have := HK.out; omega, by go_num, ⟨by rw [HI.out, HI2.out]; rfl⟩, ⟨HB.out.trans (hb'.mono HB.out.size)⟩⟩
    · have hltz : ¬ (k : Int) < (xs.length : Int) := by omega
      have hke : k = xs.length := by have := HK.out; omega
      have HKE := Aside0.mk hke
      clear hke
      go_wp2
      go_ret
      exact ⟨by rw [HI.out, HKE.out]; simp [idxT], HB.out⟩

theorem idxT_any (p : S26 → Bool) (xs : List S26) : ∀ i, decide (0 ≤ idxT p xs i) = xs.any p := by
  induction xs with
  | nil => intro i; rfl
  | cons x l ih =>
    intro i
    rw [idxT, List.any_cons]
    cases h : p x with
    | true => simp
    | false => simpa using ih (i + 1)

theorem containsFunc_calls (g : FuncId) (p : S26 → Bool) (xs : List S26) (A : Option Addr) (c : Nat) (w : World) (hr : k26.C w A xs.length xs) (eg : ∀ args w, (callFunc g args).run Try.prog w = .ok (.enter g args) w) (hp : PredT g #[] p xs w) :
    Calls Try.prog 64 #[.slice A xs.length c, .func (.func g) #[] #[]] w fun e w' => e = .returned (.bool (xs.any p)) ∧ Below w.heap.size w w' := by
  have HC := indexFunc_calls g p xs A c w hr eg hp
  have HX := Aside0.mk (idxT_any p xs 0)
  clear hp eg hr
  go_enter Try.func64, Try.ntmps64
  go_wp2_with (go_at_call 97; refine HC.mono ?_; rintro e w' ⟨rfl, hb⟩)
  go_ret
  exact ⟨ret_bool HX.out, hb⟩
end Go.Proofs.Ytkeeknlfommieaa.PF
