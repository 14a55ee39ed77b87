/- ty.field: its cells, and the comparison that its sort is given. -/
import Derived.Test.YtkeeknlfommieaaD0
import Derived.Test.YtkeeknlfommieaaShelf
import Derived.Test.YtkeeknlfommieaaB5
namespace Go.Proofs.Ytkeeknlfommieaa.PF
open Go.RowKit Go.Shelf Go.Sort Go.Proofs.YtkeeknlfommieaaW.PrintWords Go.Proofs.YtkeeknlfommieaaW.PrintLast Go.Proofs.YtkeeknlfommieaaW.PrintMore

/-- A field: a label, and a type as its cells hold it. -/
structure FE where
  l : ByteArray
  v : NV
instance : Inhabited FE := ⟨⟨ByteArray.empty, ⟨z26, none, 0, none, 0⟩⟩⟩
def FE.enc (e : FE) : List Value := [.string e.l, .int .i64 e.v.x.f0, .int .i64 e.v.x.f1, .string e.v.x.f2, .slice e.v.A3 e.v.x.f3.length e.v.c3, .slice e.v.A4 e.v.x.f4.length e.v.c4]
def FE.cf (a b : FE) : Int := Lib.compareBytes a.l.data.toList b.l.data.toList
theorem FE.hk (e : FE) : e.enc.length = 6 := rfl
theorem FE.h1 (e : FE) : ∀ v ∈ e.enc, v.oneCell' = true := by
  intro v hv
  simp only [FE.enc, List.mem_cons, List.not_mem_nil, or_false] at hv
  rcases hv with rfl | rfl | rfl | rfl | rfl | rfl <;> rfl

theorem compare_calls (a b : FE) (W : World) : Calls Try.prog 75 #[.agg a.enc.toArray, .agg b.enc.toArray] W fun e w' => e = .returned (.int .i64 (FE.cf a b)) ∧ ∃ q os', w' = grow (W.drewN q) os' := by
  obtain ⟨l, ⟨x, A3, c3, A4, c4⟩⟩ := a
  obtain ⟨m, ⟨y, B3, d3, B4, d4⟩⟩ := b
  dsimp only [FE.enc, FE.cf, List.toArray]
  go_enter Try.func75, Try.ntmps75
  go_wp2_with (go_at_call 105; refine (Try.strings_Compare _ _ _).mono ?_; rintro e w' ⟨rfl, rfl⟩)
  go_ret
  exact ⟨rfl, 0, _, by rw [World.drewN_zero, alloc_eq_grow, alloc_eq_grow, grow_grow]⟩
theorem compare_lays (blk off size : Nat) (w : World) : CmpLays Try.prog 75 #[] FE.enc 6 FE.cf blk off size w := by
  intro m os dk hs x y
  exact compare_calls x y _
theorem insertion_calls (blk off cap a b : Nat) (d : Array FE) (w : World) (hH : HoldsK FE.enc 6 w blk off d) (hblk : blk < w.heap.size) (hab : a ≤ b) (hb : b ≤ d.size) (hsz : d.size < 4611686018427387904) :
    Calls Try.prog 127 #[.slice (some ⟨blk, off, none⟩) d.size cap, .int .i64 a, .int .i64 b, .func (.func 75) #[] #[]] w fun e w' =>
      e = .returned (.tuple #[]) ∧ ∃ n os, w' = sortWorldK FE.enc 6 w blk off n (Sort.insertionSort (ltOf FE.cf) d a b) os :=
  AnyQ.insertionSortCmpFunc Try.lays127 6 Try.isAgg89 Try.sizeOf89 FE.enc FE.hk FE.h1 FE.cf 75 #[] blk off cap a b d w (enters_of Try.func75 (by kernel_rfl) rfl) (compare_lays _ _ _ _) hH hblk hab hb hsz
end Go.Proofs.Ytkeeknlfommieaa.PF
