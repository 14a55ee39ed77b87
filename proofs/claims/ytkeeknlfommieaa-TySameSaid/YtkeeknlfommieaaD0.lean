/- The insertion sort of slices.SortStableFunc at ty.field: the shelf's contract, laid by hand. -/
import Derived.Shelf.SlSortCmp.InsertionK
import Derived.Shelf.SlSortCmp.KitK
import Derived.Test.YtkeeknlfommieaaProg
namespace Go.Proofs
open Go.Shelf
def Try.lays127_ren : Go.Shelf.Ren := ⟨fun | 20 => 127 | n => n, fun | 0 => 0 | 3 => 3 | 4 => 4 | 22 => 87 | 24 => 89 | 25 => 91 | n => n, fun | n => n⟩
theorem Try.lays127 : SlLaysF0.n20 Try.prog Try.lays127_ren := {
  mixed := by kernel_rfl
  f20 := ⟨"slices.insertionSortCmpFunc[limbeck/ty.field]", by decide, Try.func127.trans (congrArg some (by kernel_rfl))⟩
  t0 := Try.underlying0
  a0 := Try.isAgg0
  z0 := Try.sizeOf0
  v0 := Try.zeroValue0
  t3 := Try.underlying3
  a3 := Try.isAgg3
  z3 := Try.sizeOf3
  v3 := Try.zeroValue3
  t4 := Try.underlying4
  a4 := Try.isAgg4
  z4 := Try.sizeOf4
  v4 := Try.zeroValue4
  t22 := Try.underlying87
  a22 := Try.isAgg87
  z22 := Try.sizeOf87
  v22 := Try.zeroValue87
  t25 := Try.underlying91
  a25 := Try.isAgg91
  z25 := Try.sizeOf91
  v25 := Try.zeroValue91 }
end Go.Proofs
