/- Base words for the contracts written by hand: what a type's cells read as, and small steps. -/
import Derived.Test.YtkeeknlfommieaaPFx0
namespace Go.Proofs.Ytkeeknlfommieaa.PF
open Go.RowKit Go.Proofs.YtkeeknlfommieaaW.PrintWords Go.Proofs.YtkeeknlfommieaaW.PrintLast Go.Proofs.YtkeeknlfommieaaW.PrintMore

/-- A type's value reads as x in w. -/
def RT (w : World) (v : Value) (x : S26) : Prop := ∃ A3 c3 A4 c4, v = .agg #[.int .i64 x.f0, .int .i64 x.f1, .string x.f2, .slice A3 x.f3.length c3, .slice A4 x.f4.length c4] ∧ x.f3.length ≤ c3 ∧ Kd.string.C w A3 x.f3.length x.f3 ∧ x.f4.length ≤ c4 ∧ k26.C w A4 x.f4.length x.f4
theorem RT.below {w w1 : World} {v : Value} {x : S26} (h : RT w v x) (hb : Below w.heap.size w w1) : RT w1 v x := by
  obtain ⟨A3, c3, A4, c4, e, l3, g3, l4, g4⟩ := h
  exact ⟨A3, c3, A4, c4, e, l3, Kd.C_below g3 hb, l4, Kd.C_below g4 hb⟩
theorem rd_getElem (xs : List S26) (i : Nat) (h : i < xs.length) : rd_T26 xs (i : Int) = xs[i] := by
  simp [rd_T26, List.getD_eq_getElem?_getD, List.getElem?_eq_getElem h]
/-- Element i of a row of types: its cells, and what they read as. -/
theorem el26 {w : World} {A : Option Addr} {xs : List S26} (h : k26.C w A xs.length xs) (i : Nat) (hi : i < xs.length) :
    ∃ ad A3 c3 A4 c4, A = some ad ∧ w.cell? (ad.add (i * 5)) = some (.int .i64 xs[i].f0) ∧ w.cell? ⟨(ad.add (i * 5)).block, (ad.add (i * 5)).off + 1, none⟩ = some (.int .i64 xs[i].f1) ∧ w.cell? ⟨(ad.add (i * 5)).block, (ad.add (i * 5)).off + 2, none⟩ = some (.string xs[i].f2) ∧ w.cell? ⟨(ad.add (i * 5)).block, (ad.add (i * 5)).off + 3, none⟩ = some (.slice A3 xs[i].f3.length c3) ∧ w.cell? ⟨(ad.add (i * 5)).block, (ad.add (i * 5)).off + 4, none⟩ = some (.slice A4 xs[i].f4.length c4)
      ∧ xs[i].f3.length ≤ c3 ∧ Kd.string.C w A3 xs[i].f3.length xs[i].f3 ∧ xs[i].f4.length ≤ c4 ∧ k26.C w A4 xs[i].f4.length xs[i].f4 := by
  obtain ⟨ad, A3, c3, A4, c4, e, h0, h1, h2, h3, h4, h5, h6, h7, h8⟩ := at_T26 h (i : Int) (by omega) (by omega)
  rw [rd_getElem xs i hi] at *
  simp only [Int.toNat_natCast] at *
  exact ⟨ad, A3, c3, A4, c4, e, h0, h1, h2, h3, h4, h5, h6, h7, h8⟩
theorem elS {w : World} {A : Option Addr} {l : List ByteArray} (h : Kd.string.C w A l.length l) (i : Nat) (hi : i < l.length) : ∃ ad, A = some ad ∧ w.cell? (ad.add i) = some (.string l[i]) := by
  obtain ⟨ad, c, e, _, hK, hc⟩ := Kd.C_get h ByteArray.empty (i : Int) (by omega) (by omega)
  obtain rfl : c = [.string (l.getD (i : Int).toNat ByteArray.empty)] := hK
  have h0 := hc 0 _ rfl
  refine ⟨ad, e, ?_⟩
  simpa [Kd.string, Kd.scalar, List.getD_eq_getElem?_getD, List.getElem?_eq_getElem hi] using h0
def bl (l : List ByteArray) : List (List UInt8) := l.map fun s => s.data.toList
theorem bl_length (l : List ByteArray) : (bl l).length = l.length := by simp [bl]
theorem bl_getD (l : List ByteArray) (i : Nat) (hi : i < l.length) : (bl l).getD i [] = (l[i]).data.toList := by simp [bl, List.getD_eq_getElem?_getD, List.getElem?_eq_getElem hi]
theorem ret_bool {a b : Bool} (h : a = b) : Ending.returned (.bool a) = .returned (.bool b) := by rw [h]
theorem ret_int {k : IntKind} {a b : Int} (h : a = b) : Ending.returned (.int k a) = .returned (.int k b) := by rw [h]
end Go.Proofs.Ytkeeknlfommieaa.PF
