/- What the rows hand over: types, lists of types and of texts, opened into the words of the walks. -/
import Derived.Test.YtkeeknlfommieaaB0
import Derived.ChangeArms
import Derived.WalkKit
import Derived.ProofKit
import Derived.OpenShut
import Derived.ShutString
import Derived.ChangeOld
import Derived.Carry
import Derived.SizedLaws
namespace Go.Proofs.Ytkeeknlfommieaa.PF
open Go.ChangeShapes Go.WideShapes Go.ChangeAt
open Go.RowKit Go.Proofs.YtkeeknlfommieaaW.PrintWords Go.Proofs.YtkeeknlfommieaaW.PrintLast Go.Proofs.YtkeeknlfommieaaW.PrintMore

theorem c_of {α : Type} (d : Kd α) {W : World} {ad : Addr} {n : Nat} (hn : n ≤ 9223372036854775807) (h : ∀ i, i < n → ∃ p cs, cs.length = d.sz ∧ d.K W p cs ∧ ∀ j u, cs[j]? = some u → W.cell? (ad.add (i * d.sz + j)) = some u) :
    ∃ xs : List α, xs.length = n ∧ d.C W (some ad) n xs := by
  have hf : ∀ i : Fin n, ∃ p cs, cs.length = d.sz ∧ d.K W p cs ∧ ∀ j u, cs[j]? = some u → W.cell? (ad.add (i.val * d.sz + j)) = some u := fun i => h i.val i.isLt
  have hf2 := fun i => Classical.choose_spec (hf i)
  obtain ⟨f, hff⟩ : ∃ f : Fin n → α, ∀ i, f i = Classical.choose (hf i) := ⟨_, fun _ => rfl⟩
  simp only [← hff] at hf2
  refine ⟨List.ofFn f, by simp, by simp, hn, fun _ => ⟨ad, rfl, fun j p hj => ?_⟩⟩
  obtain ⟨hjl, hp⟩ := List.getElem?_eq_some_iff.1 hj
  have hjl' : j < n := by simpa using hjl
  obtain ⟨cs, h1, h2, h3⟩ := hf2 ⟨j, hjl'⟩
  simp at hp
  subst hp
  exact ⟨cs, h1, h2, h3⟩

variable {H : Type} {enc : TypeId × Value → H}
theorem openS {W : World} : ∀ {fuel : Nat} {cs : List Value} {x : DataW H × List MemPlace}, DataW.trod enc Try.prog W 0 (fun _ => true) true fuel 23 cs = some x →
    ∃ A c ls, cs = [.slice A ls.length c] ∧ ls.length ≤ c ∧ Kd.string.C W A ls.length ls := by
  intro fuel cs x h
  rcases DataW.trod_slice Try.underlying23 h with ⟨rfl, _⟩ | ⟨a, len, cap, elems, rest, n, _, rfl, _, _, hlc, hcap, hel, hget, _⟩
  · exact ⟨none, 0, [], rfl, Nat.le_refl _, Kd.C_nil _ _⟩
  · obtain ⟨xs, hxl, hC⟩ := c_of Kd.string (W := W) (ad := a) (n := len) (by simp only [maxLen] at hcap; omega) (by
      intro i hi
      have hg := hget i hi
      rw [List.getElem?_eq_getElem (by omega)] at hg
      obtain ⟨cs, hcs, ht⟩ := Option.bind_eq_some_iff.1 hg
      have hsz : Try.prog.cellsOf 9 = 1 := by kernel_rfl
      rw [hsz] at hcs
      obtain ⟨_, hl, hc⟩ := World.cells?_some hcs
      obtain ⟨s, rfl, _, _⟩ := DataW.trod_string Try.underlying9 ht
      refine ⟨s, [.string s], rfl, rfl, fun j u hu => ?_⟩
      have hj : j < 1 := (List.getElem?_eq_some_iff.1 hu).1
      have h_ := hc j hj
      rw [Addr.add_add] at h_
      exact h_.trans hu)
    subst hxl
    exact ⟨some a, cap, xs, rfl, hlc, hC⟩
theorem list5 {α : Type} {l : List α} (h : l.length = 5) : ∃ a b c d e, l = [a, b, c, d, e] := by
  match l, h with
  | [a, b, c, d, e], _ => exact ⟨a, b, c, d, e, rfl⟩
theorem open26 {W : World} : ∀ (fuel : Nat) {cs : List Value} {x : DataW H × List MemPlace}, DataW.trod enc Try.prog W 0 (fun _ => true) true fuel 26 cs = some x → ∃ y, cs.length = 5 ∧ k26.K W y cs := by
  intro fuel
  induction fuel using Nat.strongRecOn with
  | ind fuel ih =>
  intro cs x h
  obtain ⟨xs, n, rfl, _, hlen, hxl0, hf⟩ := DataW.trod_struct Try.underlying26 h
  have h5 : Try.prog.cellsOf 26 = 5 := by kernel_rfl
  have h3 : Try.prog.cellsOf 3 = 1 := by kernel_rfl
  have h9 : Try.prog.cellsOf 9 = 1 := by kernel_rfl
  have h23 : Try.prog.cellsOf 23 = 1 := by kernel_rfl
  have h24 : Try.prog.cellsOf 24 = 1 := by kernel_rfl
  rw [h5] at hlen
  obtain ⟨v0, v1, v2, v3, v4, rfl⟩ := list5 hlen
  have hxl : xs.length = 5 := hxl0
  have get : ∀ i (hi : i < 5), ∃ y, xs[i]? = some y := fun i hi => ⟨_, List.getElem?_eq_getElem (by omega)⟩
  obtain ⟨y0, e0⟩ := get 0 (by omega)
  obtain ⟨y1, e1⟩ := get 1 (by omega)
  obtain ⟨y2, e2⟩ := get 2 (by omega)
  obtain ⟨y3, e3⟩ := get 3 (by omega)
  obtain ⟨y4, e4⟩ := get 4 (by omega)
  have f0 : DataW.trod enc Try.prog W 0 (fun _ => true) true n 3 (([v0, v1, v2, v3, v4].drop 0).take (Try.prog.cellsOf 3)) = some y0 := (hf 0 _ rfl).trans e0
  have f1 : DataW.trod enc Try.prog W 0 (fun _ => true) true n 3 (([v0, v1, v2, v3, v4].drop 1).take (Try.prog.cellsOf 3)) = some y1 := (hf 1 _ rfl).trans e1
  have f2 : DataW.trod enc Try.prog W 0 (fun _ => true) true n 9 (([v0, v1, v2, v3, v4].drop 2).take (Try.prog.cellsOf 9)) = some y2 := (hf 2 _ rfl).trans e2
  have f3 : DataW.trod enc Try.prog W 0 (fun _ => true) true n 23 (([v0, v1, v2, v3, v4].drop 3).take (Try.prog.cellsOf 23)) = some y3 := (hf 3 _ rfl).trans e3
  have f4 : DataW.trod enc Try.prog W 0 (fun _ => true) true n 24 (([v0, v1, v2, v3, v4].drop 4).take (Try.prog.cellsOf 24)) = some y4 := (hf 4 _ rfl).trans e4
  rw [h3] at f0 f1
  rw [h9] at f2
  rw [h23] at f3
  rw [h24] at f4
  simp only [List.drop_zero, List.drop_succ_cons, List.take_succ_cons, List.take_zero] at f0 f1 f2 f3 f4
  obtain ⟨k, ek, _, _⟩ := DataW.trod_int Try.underlying3 f0
  obtain ⟨m, em, _, _⟩ := DataW.trod_int Try.underlying3 f1
  obtain ⟨s, es, _, _⟩ := DataW.trod_string Try.underlying9 f2
  obtain ⟨A3, c3, ls, el, l3, g3⟩ := openS f3
  have hA : ∃ A c ar, [v4] = [.slice A ar.length c] ∧ ar.length ≤ c ∧ k26.C W A ar.length ar := by
    rcases DataW.trod_slice Try.underlying24 f4 with ⟨e, _⟩ | ⟨a, len, cap, elems, rest, n', rfl, e, _, _, hlc, hcap, hel, hget, _⟩
    · exact ⟨none, 0, [], e, Nat.le_refl _, Kd.C_nil _ _⟩
    · obtain ⟨xs', hxl', hC⟩ := c_of k26 (W := W) (ad := a) (n := len) (by simp only [maxLen] at hcap; omega) (by
        intro i hi
        have hg := hget i hi
        rw [List.getElem?_eq_getElem (by omega)] at hg
        obtain ⟨cs, hcs, ht⟩ := Option.bind_eq_some_iff.1 hg
        rw [h5] at hcs
        obtain ⟨_, hl, hc⟩ := World.cells?_some hcs
        obtain ⟨y, _, hK⟩ := ih n' (by omega) ht
        refine ⟨y, cs, hl, hK, fun j u hu => ?_⟩
        have hj : j < 5 := by have := (List.getElem?_eq_some_iff.1 hu).1; omega
        have h_ := hc j hj
        rw [Addr.add_add] at h_
        exact h_.trans hu)
      subst hxl'
      exact ⟨some a, cap, xs', e, hlc, hC⟩
  obtain ⟨A4, c4, ar, ea, l4, g4⟩ := hA
  cases ek
  cases em
  cases es
  cases el
  cases ea
  exact ⟨⟨k, m, s, ls, ar⟩, rfl, k26_mk W ⟨k, m, s, ls, ar⟩ l3 g3 l4 g4⟩
theorem openL {W : World} {fuel : Nat} {cs : List Value} {x : DataW H × List MemPlace} (h : DataW.trod enc Try.prog W 0 (fun _ => true) true fuel 24 cs = some x) : ∃ A c ar, cs = [.slice A ar.length c] ∧ ar.length ≤ c ∧ k26.C W A ar.length ar := by
  have h5 : Try.prog.cellsOf 26 = 5 := by kernel_rfl
  rcases DataW.trod_slice Try.underlying24 h with ⟨e, _⟩ | ⟨a, len, cap, elems, rest, n', rfl, e, _, _, hlc, hcap, hel, hget, _⟩
  · exact ⟨none, 0, [], e, Nat.le_refl _, Kd.C_nil _ _⟩
  · obtain ⟨xs', hxl', hC⟩ := c_of k26 (W := W) (ad := a) (n := len) (by simp only [maxLen] at hcap; omega) (by
      intro i hi
      have hg := hget i hi
      rw [List.getElem?_eq_getElem (by omega)] at hg
      obtain ⟨cs, hcs, ht⟩ := Option.bind_eq_some_iff.1 hg
      rw [h5] at hcs
      obtain ⟨_, hl, hc⟩ := World.cells?_some hcs
      obtain ⟨y, _, hK⟩ := open26 n' ht
      refine ⟨y, cs, hl, hK, fun j u hu => ?_⟩
      have hj : j < 5 := by have := (List.getElem?_eq_some_iff.1 hu).1; omega
      have h_ := hc j hj
      rw [Addr.add_add] at h_
      exact h_.trans hu)
    subst hxl'
    exact ⟨some a, cap, xs', e, hlc, hC⟩
set_option maxRecDepth 1000000 in
/-- A type that a row hands over. -/
theorem arg26 {W : World} {r : Reach} {b0 : Nat} {v : Value} {d : DataW H} {p : List MemPlace} (hv : Value.okWide Try.prog W r b0 26 v) (h : DataW.Trod enc Try.prog W 0 (fun _ => true) true 26 v d p) : ∃ y, RT W v y := by
  obtain ⟨cs, rfl, _⟩ := okWide_struct Try.underlying26 hv
  obtain ⟨fuel, h⟩ := h
  obtain ⟨y, _, hK⟩ := open26 fuel h
  obtain ⟨A3, c3, A4, c4, e, l3, g3, l4, g4⟩ := k26_open hK
  refine ⟨y, A3, c3, A4, c4, ?_, l3, g3, l4, g4⟩
  have : cs = #[.int .i64 y.f0, .int .i64 y.f1, .string y.f2, .slice A3 y.f3.length c3, .slice A4 y.f4.length c4] := by
    rw [← Array.toList_inj]; exact e
  rw [this]
end Go.Proofs.Ytkeeknlfommieaa.PF
