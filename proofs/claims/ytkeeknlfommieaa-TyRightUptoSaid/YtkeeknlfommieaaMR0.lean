/- The insertion sort of slices.SortStableFunc at ty.field: the shelf's contract, laid by hand. · DERIVED: THE SHELF's CONTRACTS AT THIS DUMP, IN PLAIN WORDS (tools/lay-plain.mjs out of 'TryShelf.lean', which tools/lay-shelf.mjs wrote): THE SAME DECLARATIONS UNDER THE SAME NAMES: 'import', 'namespace', 'open', 'def', 'theorem' AND NOTHING ELSE: no command of the shelf's: FOR A HAND-IN. Each laying: the table of numbers ('.._ren') and one theorem, a field a fact of the dump's own or the kernel's comparison; each contract: ONE APPLICATION. · Base words for the contracts written by hand: what a type's cells read as, and small steps. · slices.IndexFunc, slices.ContainsFunc over types, ty.Right's literal: contracts, for every function value that answers as a plain function. · Plain words on names: what a text is by its letters, which words are kept, lists that rise. · name.shape: what a text is  -/
import Derived.Shelf.SlSortCmp.InsertionK
import Derived.Shelf.SlSortCmp.KitK
import Derived.Test.YtkeeknlfommieaaProg
import Derived.Shelf.Small.Bits
import Derived.Shelf.Small.Strs
import Derived.Shelf.Strconv.Itoa0
import Derived.Shelf.Sort.Plain
import Derived.Shelf.Slices.Turned
import Derived.Shelf.Slices.Equal
import Derived.Shelf.Slices.CompactS
import Derived.Shelf.Slices.Cells
import Derived.Shelf.Slices.In.SortNone
import Derived.Shelf.Slices.Empties2
import Derived.Test.YtkeeknlfommieaaPFx0
import Derived.Shelf.Abstract
import GoSem.Op.String
import Derived.Laws.RangeAny
import Derived.WalkLawsBesides
import Derived.Test.YtkeeknlfommieaaPFx12
import Derived.RangeFuncNested
import Derived.RangeFuncBound
import Derived.RangeFuncCalls
import Derived.RangeFuncLeaves
import Derived.RangeFuncBox
import Derived.Shelf.RegionOpen
import Derived.WalkKit
import Derived.OwnWalkIn
import Derived.TacticsInMore
import Derived.LoopNIn
import Derived.LoopIn
namespace Go.Proofs
open Go.Shelf
def Try.lays127_ren : Go.Shelf.Ren := ⟨fun | 20 => 127 | n => n, fun | 0 => 0 | 3 => 3 | 4 => 4 | 22 => 87 | 24 => 89 | 25 => 91 | n => n, fun | n => n⟩
theorem Try.lays127 : SlLaysF0.n20 Try.prog Try.lays127_ren := {
  mixed := by kernel_rfl
  f20 := ⟨"slices.insertionSortCmpFunc[limbeck/ty.field]", by decide, Try.func127.trans (congrArg some (by kernel_rfl))⟩
  t0 := Try.underlying0
  a0 := Try.isAgg0
  z0 := Try.sizeOf0
  v0 := Try.zeroValue0
  t3 := Try.underlying3
  a3 := Try.isAgg3
  z3 := Try.sizeOf3
  v3 := Try.zeroValue3
  t4 := Try.underlying4
  a4 := Try.isAgg4
  z4 := Try.sizeOf4
  v4 := Try.zeroValue4
  t22 := Try.underlying87
  a22 := Try.isAgg87
  z22 := Try.sizeOf87
  v22 := Try.zeroValue87
  t25 := Try.underlying91
  a25 := Try.isAgg91
  z25 := Try.sizeOf91
  v25 := Try.zeroValue91 }
end Go.Proofs
namespace Go.Proofs
open Go.Shelf
def Try.lays128_ren : Go.Shelf.Ren := ⟨fun | 128 => 125 | n => n, fun | 51 => 125 | 3 => 3 | 4 => 4 | 46 => 108 | 5 => 5 | 9 => 9 | n => n, fun | n => n⟩
theorem Try.lays128 : Go.Proofs.Lays.n128 Try.prog Try.lays128_ren := {
  mixed := by kernel_rfl
  f128 := Try.func125.trans (congrArg some (by kernel_rfl))
  t3 := Try.underlying3
  a3 := Try.isAgg3
  z3 := Try.sizeOf3
  v3 := Try.zeroValue3
  t4 := Try.underlying4
  a4 := Try.isAgg4
  z4 := Try.sizeOf4
  v4 := Try.zeroValue4
  t5 := Try.underlying5
  a5 := Try.isAgg5
  z5 := Try.sizeOf5
  v5 := Try.zeroValue5
  t9 := Try.underlying9
  a9 := Try.isAgg9
  z9 := Try.sizeOf9
  v9 := Try.zeroValue9
  t46 := Try.underlying108
  a46 := Try.isAgg108
  z46 := Try.sizeOf108
  v46 := Try.zeroValue108
  t51 := Try.underlying125
  a51 := Try.isAgg125
  z51 := Try.sizeOf125
  v51 := Try.zeroValue125 }
/-- bits.Len32: "Len32 returns the minimum number of bits required to represent x; the result is 0 for x == 0.": IT RETURNS 'Lib.bitLen x'; the world is as it was. ('h0', 'h1': x is a uint32.) (LAID: no walk: one application.) -/
theorem Try.bits_Len32 (x : Int) (w : World) (h0 : 0 ≤ x) (h1 : x ≤ 4294967295) :
    Calls Try.prog 125 #[.int .u32 x] w fun e w' => e = .returned (.int .i64 (Lib.bitLen x.toNat)) ∧ w' = w := Any.bits_Len32 Try.lays128 x w h0 h1
def Try.lays125_ren : Go.Shelf.Ren := ⟨fun | 125 => 103 | 128 => 125 | 129 => 126 | n => n, fun | 46 => 108 | 3 => 3 | 51 => 125 | 53 => 127 | 4 => 4 | 5 => 5 | 9 => 9 | n => n, fun | n => n⟩
theorem Try.lays125 : Go.Proofs.Lays.n125 Try.prog Try.lays125_ren := {
  mixed := by kernel_rfl
  f125 := Try.func103.trans (congrArg some (by kernel_rfl))
  f128 := Try.func125.trans (congrArg some (by kernel_rfl))
  f129 := Try.func126.trans (congrArg some (by kernel_rfl))
  t3 := Try.underlying3
  a3 := Try.isAgg3
  z3 := Try.sizeOf3
  v3 := Try.zeroValue3
  t4 := Try.underlying4
  a4 := Try.isAgg4
  z4 := Try.sizeOf4
  v4 := Try.zeroValue4
  t5 := Try.underlying5
  a5 := Try.isAgg5
  z5 := Try.sizeOf5
  v5 := Try.zeroValue5
  t9 := Try.underlying9
  a9 := Try.isAgg9
  z9 := Try.sizeOf9
  v9 := Try.zeroValue9
  t46 := Try.underlying108
  a46 := Try.isAgg108
  z46 := Try.sizeOf108
  v46 := Try.zeroValue108
  t51 := Try.underlying125
  a51 := Try.isAgg125
  z51 := Try.sizeOf125
  v51 := Try.zeroValue125
  t53 := Try.underlying127
  a53 := Try.isAgg127
  z53 := Try.sizeOf127
  v53 := Try.zeroValue127 }
/-- bits.Len: "Len returns the minimum number of bits required to represent x; the result is 0 for x == 0.": IT RETURNS 'Lib.bitLen x'; the world is as it was. (A uint has 64 bits in the model.) ITS CALLEE bits.Len64 IS MET BY ITS OWN CONTRACT OFF THE SHELF (lay that first). (LAID: no walk: one application.) -/
theorem Try.bits_Len (x : Int) (w : World) (h0 : 0 ≤ x) (h1 : x ≤ 18446744073709551615) :
    Calls Try.prog 103 #[.int .u64 x] w fun e w' => e = .returned (.int .i64 (Lib.bitLen x.toNat)) ∧ w' = w := Any.bits_Len Try.lays125 x w h0 h1
def Try.lays213_ren : Go.Shelf.Ren := ⟨fun | 213 => 129 | 265 => 141 | n => n, fun | 9 => 9 | 3 => 3 | n => n, fun | n => n⟩
theorem Try.lays213 : Go.Proofs.Lays.n213 Try.prog Try.lays213_ren := {
  mixed := by kernel_rfl
  f213 := Try.func129.trans (congrArg some (by kernel_rfl))
  f265 := Try.func141.trans (congrArg some (by kernel_rfl))
  t3 := Try.underlying3
  a3 := Try.isAgg3
  z3 := Try.sizeOf3
  v3 := Try.zeroValue3
  t9 := Try.underlying9
  a9 := Try.isAgg9
  z9 := Try.sizeOf9
  v9 := Try.zeroValue9 }
open Go.RowKit in
/-- internal/bytealg.CompareString (what strings.Compare calls): IT RETURNS 'Lib.compareBytes a b'; the world is as it was. (LAID: no walk: one application.) -/
theorem Try.bytealg_CompareString (a b : ByteArray) (w : World) :
    Calls Try.prog 129 #[.string a, .string b] w fun e w' => e = .returned (.int .i64 (Lib.compareBytes a.data.toList b.data.toList)) ∧ w' = w := Any.bytealg_CompareString Try.lays213 a b w
def Try.lays106_ren : Go.Shelf.Ren := ⟨fun | 106 => 105 | 213 => 129 | 265 => 141 | n => n, fun | 9 => 9 | 3 => 3 | n => n, fun | n => n⟩
theorem Try.lays106 : Go.Proofs.Lays.n106 Try.prog Try.lays106_ren := {
  mixed := by kernel_rfl
  f106 := Try.func105.trans (congrArg some (by kernel_rfl))
  f213 := Try.func129.trans (congrArg some (by kernel_rfl))
  f265 := Try.func141.trans (congrArg some (by kernel_rfl))
  t3 := Try.underlying3
  a3 := Try.isAgg3
  z3 := Try.sizeOf3
  v3 := Try.zeroValue3
  t9 := Try.underlying9
  a9 := Try.isAgg9
  z9 := Try.sizeOf9
  v9 := Try.zeroValue9 }
open Go.RowKit in
/-- strings.Compare: "Compare returns an integer comparing two strings lexicographically. The result will be 0 if a == b, -1 if a < b, and +1 if a > b.": IT RETURNS 'Lib.compareBytes a b'; the world is as it was. (LAID: no walk: one application.) -/
theorem Try.strings_Compare (a b : ByteArray) (w : World) :
    Calls Try.prog 105 #[.string a, .string b] w fun e w' => e = .returned (.int .i64 (Lib.compareBytes a.data.toList b.data.toList)) ∧ w' = w := Any.strings_Compare Try.lays106 a b w
def Try.lays129_ren : Go.Shelf.Ren := ⟨fun | 129 => 126 | n => n, fun | 53 => 127 | 3 => 3 | 4 => 4 | 46 => 108 | 5 => 5 | 9 => 9 | n => n, fun | n => n⟩
theorem Try.lays129 : Go.Proofs.Lays.n129 Try.prog Try.lays129_ren := {
  mixed := by kernel_rfl
  f129 := Try.func126.trans (congrArg some (by kernel_rfl))
  t3 := Try.underlying3
  a3 := Try.isAgg3
  z3 := Try.sizeOf3
  v3 := Try.zeroValue3
  t4 := Try.underlying4
  a4 := Try.isAgg4
  z4 := Try.sizeOf4
  v4 := Try.zeroValue4
  t5 := Try.underlying5
  a5 := Try.isAgg5
  z5 := Try.sizeOf5
  v5 := Try.zeroValue5
  t9 := Try.underlying9
  a9 := Try.isAgg9
  z9 := Try.sizeOf9
  v9 := Try.zeroValue9
  t46 := Try.underlying108
  a46 := Try.isAgg108
  z46 := Try.sizeOf108
  v46 := Try.zeroValue108
  t53 := Try.underlying127
  a53 := Try.isAgg127
  z53 := Try.sizeOf127
  v53 := Try.zeroValue127 }
/-- bits.Len64: "Len64 returns the minimum number of bits required to represent x; the result is 0 for x == 0.": IT RETURNS 'Lib.bitLen x'; the world is as it was. ('h0', 'h1': x is a uint64.) (LAID: no walk: one application.) -/
theorem Try.bits_Len64 (x : Int) (w : World) (h0 : 0 ≤ x) (h1 : x ≤ 18446744073709551615) :
    Calls Try.prog 126 #[.int .u64 x] w fun e w' => e = .returned (.int .i64 (Lib.bitLen x.toNat)) ∧ w' = w := Any.bits_Len64 Try.lays129 x w h0 h1
def Try.lays190_ren : Go.Shelf.Ren := ⟨fun | 190 => 69 | 125 => 103 | 258 => 102 | 128 => 125 | 129 => 126 | 302 => 116 | 303 => 117 | 304 => 118 | 305 => 119 | 306 => 120 | 307 => 121 | 308 => 122 | 309 => 123 | 310 => 124 | 333 => 134 | 329 => 135 | 330 => 136 | 334 => 137 | 335 => 138 | 336 => 139 | 344 => 143 | n => n, fun | 31 => 23 | 9 => 9 | 3 => 3 | 46 => 108 | 0 => 0 | 51 => 125 | 53 => 127 | 4 => 4 | 183 => 117 | 182 => 116 | 131 => 122 | 5 => 5 | 218 => 131 | 222 => 135 | 228 => 137 | 229 => 138 | n => n, fun | n => n⟩
theorem Try.lays190 : Go.Proofs.Lays.n190 Try.prog Try.lays190_ren := {
  mixed := by kernel_rfl
  f125 := Try.func103.trans (congrArg some (by kernel_rfl))
  f128 := Try.func125.trans (congrArg some (by kernel_rfl))
  f129 := Try.func126.trans (congrArg some (by kernel_rfl))
  f190 := Try.func69.trans (congrArg some (by kernel_rfl))
  f258 := Try.func102.trans (congrArg some (by kernel_rfl))
  f302 := Try.func116.trans (congrArg some (by kernel_rfl))
  f303 := Try.func117.trans (congrArg some (by kernel_rfl))
  f304 := Try.func118.trans (congrArg some (by kernel_rfl))
  f305 := Try.func119.trans (congrArg some (by kernel_rfl))
  f306 := Try.func120.trans (congrArg some (by kernel_rfl))
  f307 := Try.func121.trans (congrArg some (by kernel_rfl))
  f308 := Try.func122.trans (congrArg some (by kernel_rfl))
  f309 := Try.func123.trans (congrArg some (by kernel_rfl))
  f310 := Try.func124.trans (congrArg some (by kernel_rfl))
  f329 := Try.func135.trans (congrArg some (by kernel_rfl))
  f330 := Try.func136.trans (congrArg some (by kernel_rfl))
  f333 := Try.func134.trans (congrArg some (by kernel_rfl))
  f334 := Try.func137.trans (congrArg some (by kernel_rfl))
  f335 := Try.func138.trans (congrArg some (by kernel_rfl))
  f336 := Try.func139.trans (congrArg some (by kernel_rfl))
  f344 := Try.func143.trans (congrArg some (by kernel_rfl))
  t0 := Try.underlying0
  a0 := Try.isAgg0
  z0 := Try.sizeOf0
  v0 := Try.zeroValue0
  t3 := Try.underlying3
  a3 := Try.isAgg3
  z3 := Try.sizeOf3
  v3 := Try.zeroValue3
  t4 := Try.underlying4
  a4 := Try.isAgg4
  z4 := Try.sizeOf4
  v4 := Try.zeroValue4
  t5 := Try.underlying5
  a5 := Try.isAgg5
  z5 := Try.sizeOf5
  v5 := Try.zeroValue5
  t9 := Try.underlying9
  a9 := Try.isAgg9
  z9 := Try.sizeOf9
  v9 := Try.zeroValue9
  t31 := Try.underlying23
  a31 := Try.isAgg23
  z31 := Try.sizeOf23
  v31 := Try.zeroValue23
  t46 := Try.underlying108
  a46 := Try.isAgg108
  z46 := Try.sizeOf108
  v46 := Try.zeroValue108
  t51 := Try.underlying125
  a51 := Try.isAgg125
  z51 := Try.sizeOf125
  v51 := Try.zeroValue125
  t53 := Try.underlying127
  a53 := Try.isAgg127
  z53 := Try.sizeOf127
  v53 := Try.zeroValue127
  t131 := Try.underlying122
  a131 := Try.isAgg122
  z131 := Try.sizeOf122
  v131 := Try.zeroValue122
  t182 := Try.underlying116
  a182 := Try.isAgg116
  z182 := Try.sizeOf116
  v182 := Try.zeroValue116
  t183 := Try.underlying117
  a183 := Try.isAgg117
  z183 := Try.sizeOf117
  v183 := Try.zeroValue117
  t218 := Try.underlying131
  a218 := Try.isAgg131
  z218 := Try.sizeOf131
  v218 := Try.zeroValue131
  t222 := Try.underlying135
  a222 := Try.isAgg135
  z222 := Try.sizeOf135
  v222 := Try.zeroValue135
  t228 := Try.underlying137
  a228 := Try.isAgg137
  z228 := Try.sizeOf137
  v228 := Try.zeroValue137
  t229 := Try.underlying138
  a229 := Try.isAgg138
  z229 := Try.sizeOf138
  v229 := Try.zeroValue138 }
open Go.Sort Go.RowKit in
theorem Try.slices_Sort_string (blk off cap : Nat) (ss : List (List UInt8)) (w : World) (hH : Holds encStr w blk off ss.toArray) (hblk : blk < w.heap.size) (hsz : ss.length < 4611686018427387904) :
    Calls Try.prog 69 #[.slice (some ⟨blk, off, none⟩) ss.length cap] w fun e w' =>
      e = .returned (.tuple #[]) ∧ ∃ n os, w' = grow (putRow encStr (Sort.ahead w n) blk off (ss.mergeSort fun x y => decide (x ≤ y)).toArray) os := Any.slices_Sort_string Try.lays190 blk off cap ss w hH hblk hsz
def Try.lays109_ren : Go.Shelf.Ren := ⟨fun | 109 => 77 | n => n, fun | 31 => 23 | 9 => 9 | 3 => 3 | 0 => 0 | 4 => 4 | n => n, fun | n => n⟩
theorem Try.lays109 : Go.Proofs.Lays.n109 Try.prog Try.lays109_ren := {
  mixed := by kernel_rfl
  f109 := Try.func77.trans (congrArg some (by kernel_rfl))
  t0 := Try.underlying0
  a0 := Try.isAgg0
  z0 := Try.sizeOf0
  v0 := Try.zeroValue0
  t3 := Try.underlying3
  a3 := Try.isAgg3
  z3 := Try.sizeOf3
  v3 := Try.zeroValue3
  t4 := Try.underlying4
  a4 := Try.isAgg4
  z4 := Try.sizeOf4
  v4 := Try.zeroValue4
  t9 := Try.underlying9
  a9 := Try.isAgg9
  z9 := Try.sizeOf9
  v9 := Try.zeroValue9
  t31 := Try.underlying23
  a31 := Try.isAgg23
  z31 := Try.sizeOf23
  v31 := Try.zeroValue23 }
open Go.Lib in
/-- slices.Index at []string: "Index returns the index of the first occurrence of v in s, or -1 if not present.": IT RETURNS 'Lib.idxOfS (the elements) v'; the world is as it was. 'zs': what the cells behind the slice's address hold (its spare capacity too, if you have it); 'zs.take n': its elements. (LAID: no walk: one application.) -/
theorem Try.slices_Index_string (b off n c : Nat) (zs : List ByteArray) (x : ByteArray) (w : World) (hz : n ≤ zs.length) (hbig : n ≤ 9223372036854775807) (hc : ∀ j, j < zs.length → w.cell? ⟨b, off + j, none⟩ = some (.string (zs.getD j ByteArray.empty))) :
    Calls Try.prog 77 #[.slice (some ⟨b, off, none⟩) n c, .string x] w fun e w' => e = .returned (.int .i64 (Lib.idxOfS (zs.take n) x)) ∧ w' = w := Any.slices_Index_string Try.lays109 b off n c zs x w hz hbig hc
open Go.Lib in
/-- The same at a slice of length 0, a nil one too: no cell is known, none is asked for. (LAID: no walk: one application.) -/
theorem Try.slices_Index_string_empty (a : Option Addr) (c : Nat) (x : ByteArray) (w : World) :
    Calls Try.prog 77 #[.slice a 0 c, .string x] w fun e w' => e = .returned (.int .i64 (Lib.idxOfS [] x)) ∧ w' = w := Any.slices_Index_string_empty Try.lays109 a c x w
def Try.lays193_ren : Go.Shelf.Ren := ⟨fun | 193 => 72 | n => n, fun | 31 => 23 | 9 => 9 | 4 => 4 | 3 => 3 | 0 => 0 | n => n, fun | n => n⟩
theorem Try.lays193 : Go.Proofs.Lays.n193 Try.prog Try.lays193_ren := {
  mixed := by kernel_rfl
  f193 := Try.func72.trans (congrArg some (by kernel_rfl))
  t0 := Try.underlying0
  a0 := Try.isAgg0
  z0 := Try.sizeOf0
  v0 := Try.zeroValue0
  t3 := Try.underlying3
  a3 := Try.isAgg3
  z3 := Try.sizeOf3
  v3 := Try.zeroValue3
  t4 := Try.underlying4
  a4 := Try.isAgg4
  z4 := Try.sizeOf4
  v4 := Try.zeroValue4
  t9 := Try.underlying9
  a9 := Try.isAgg9
  z9 := Try.sizeOf9
  v9 := Try.zeroValue9
  t31 := Try.underlying23
  a31 := Try.isAgg23
  z31 := Try.sizeOf23
  v31 := Try.zeroValue23 }
open Go.RowKit Go.Lib in
/-- slices.Equal at []string: "Equal reports whether two slices are equal: the same length and all elements equal. If the lengths are different, Equal returns false. Otherwise, the elements are compared in increasing index order, and the comparison stops at the first unequal pair. Empty and nil slices are considered equal.": IT RETURNS WHETHER THE TWO LISTS OF ELEMENTS ARE ONE; the world is as it was but for the count of draws (the test 's1[i] != s2[i]' has two reads, whose order the model draws, once a round). 'xs', 'ys': what the cells behind the two addresses hold (the spare capacity too, if you have it); 'xs.take n', 'ys.take m': the elements. THE TWO SLICES MAY OVERLAP. (LAID: no walk: one application.) -/
theorem Try.slices_Equal_string (b1 o1 n c b2 o2 m d : Nat) (xs ys : List ByteArray) (w : World) (hx : n ≤ xs.length) (hy : m ≤ ys.length) (hbig : n ≤ 9223372036854775807) (hbig2 : m ≤ 9223372036854775807) (hc1 : ∀ j, j < xs.length → w.cell? ⟨b1, o1 + j, none⟩ = some (.string (xs.getD j ByteArray.empty))) (hc2 : ∀ j, j < ys.length → w.cell? ⟨b2, o2 + j, none⟩ = some (.string (ys.getD j ByteArray.empty))) :
    Calls Try.prog 72 #[.slice (some ⟨b1, o1, none⟩) n c, .slice (some ⟨b2, o2, none⟩) m d] w fun e w' => e = .returned (.bool (decide (xs.take n = ys.take m))) ∧ ∃ q, w' = w.drewN q := Any.slices_Equal_string Try.lays193 b1 o1 n c b2 o2 m d xs ys w hx hy hbig hbig2 hc1 hc2
open Go.RowKit Go.Lib in
/-- The same where the first is of length 0 (a nil one too): no cell is asked for. (LAID: no walk: one application.) -/
theorem Try.slices_Equal_string_empty (a1 a2 : Option Addr) (c m d : Nat) (w : World) (hbig2 : m ≤ 9223372036854775807) :
    Calls Try.prog 72 #[.slice a1 0 c, .slice a2 m d] w fun e w' => e = .returned (.bool (decide (m = 0))) ∧ w' = w := Any.slices_Equal_string_empty Try.lays193 a1 a2 c m d w hbig2
def Try.lays194_ren : Go.Shelf.Ren := ⟨fun | 194 => 70 | n => n, fun | 31 => 23 | 9 => 9 | 3 => 3 | 4 => 4 | 0 => 0 | n => n, fun | n => n⟩
theorem Try.lays194 : Go.Proofs.Lays.n194 Try.prog Try.lays194_ren := {
  mixed := by kernel_rfl
  f194 := Try.func70.trans (congrArg some (by kernel_rfl))
  t0 := Try.underlying0
  a0 := Try.isAgg0
  z0 := Try.sizeOf0
  v0 := Try.zeroValue0
  t3 := Try.underlying3
  a3 := Try.isAgg3
  z3 := Try.sizeOf3
  v3 := Try.zeroValue3
  t4 := Try.underlying4
  a4 := Try.isAgg4
  z4 := Try.sizeOf4
  v4 := Try.zeroValue4
  t9 := Try.underlying9
  a9 := Try.isAgg9
  z9 := Try.sizeOf9
  v9 := Try.zeroValue9
  t31 := Try.underlying23
  a31 := Try.isAgg23
  z31 := Try.sizeOf23
  v31 := Try.zeroValue23 }
open Go.RowKit Go.Lib Go.Sort in
/-- slices.Compact at []string, over an array: the library's two loops are walked. (LAID: no walk: one application.) -/
theorem Try.slices_Compact_string_arr (blk off cap : Nat) (d : Array (List UInt8)) (w : World) (hH : Holds encStr w blk off d) (hsz : d.size ≤ 9223372036854775807) (hcap : d.size ≤ cap) :
    Calls Try.prog 70 #[.slice (some ⟨blk, off, none⟩) d.size cap] w fun e w' => e = .returned (.slice (some ⟨blk, off, none⟩) (compactUpTo d d.size).length cap) ∧ ∃ q, w' = putRow encStr (Sort.ahead w q) blk off (compactUpTo d d.size ++ List.replicate (d.size - (compactUpTo d d.size).length) []).toArray := Any.slices_Compact_string_arr Try.lays194 blk off cap d w hH hsz hcap
open Go.RowKit Go.Lib Go.Sort in
/-- slices.Compact at []string: "Compact replaces consecutive runs of equal elements with a single copy. This is like the uniq command found on Unix. Compact modifies the contents of the slice s and returns the modified slice, which may have a smaller length. Compact zeroes the elements between the new length and the original length. The result preserves the nilness of s.": IT RETURNS THE SLICE CUT TO 'Lib.compact zs'; ITS CELLS HOLD 'Lib.compact zs', THEN ZERO VALUES up to the old length; all else is as it was, but for the count of draws. IN THE WORDS OF slices.Sort's CONTRACT ('Holds', 'putRow'): so the everyday 'slices.Sort(xs); xs = slices.Compact(xs)' goes from the one contract to the other. It asks 'zs.length ≤ cap' (every slice's: the reslicing 's[:k]' looks at it). Length 0, nil: '.._empty'. (LAID: no walk: one application.) -/
theorem Try.slices_Compact_string (blk off cap : Nat) (zs : List (List UInt8)) (w : World) (hH : Holds encStr w blk off zs.toArray) (hsz : zs.length ≤ 9223372036854775807) (hcap : zs.length ≤ cap) :
    Calls Try.prog 70 #[.slice (some ⟨blk, off, none⟩) zs.length cap] w fun e w' => e = .returned (.slice (some ⟨blk, off, none⟩) (Lib.compact zs).length cap) ∧ ∃ q, w' = putRow encStr (Sort.ahead w q) blk off (Lib.compact zs ++ List.replicate (zs.length - (Lib.compact zs).length) []).toArray := Any.slices_Compact_string Try.lays194 blk off cap zs w hH hsz hcap
open Go.RowKit Go.Lib Go.Sort in
/-- The same at a slice of length 0, a nil one too: it comes back as it is. (LAID: no walk: one application.) -/
theorem Try.slices_Compact_string_empty (a : Option Addr) (cap : Nat) (w : World) :
    Calls Try.prog 70 #[.slice a 0 cap] w fun e w' => e = .returned (.slice a 0 cap) ∧ w' = w := Any.slices_Compact_string_empty Try.lays194 a cap w
open Go.RowKit Go.Lib Go.Sort in
/-- slices.Compact at []string, of an argument. (LAID: no walk: one application.) -/
theorem Try.slices_Compact_string_cells (b off n c : Nat) (Sx : Nat → ByteArray) (w : World) (hbig : n ≤ 9223372036854775807) (hcap : n ≤ c) (hc : ∀ i, i < n → w.cell? ⟨b, off + i, none⟩ = some (.string (Sx i))) (hf : ∀ j, j < n → w.frozen? ⟨b, off + j, none⟩ = false) :
    Calls Try.prog 70 #[.slice (some ⟨b, off, none⟩) n c] w fun e w' => e = .returned (.slice (some ⟨b, off, none⟩) (Lib.compact (Lib.strsOf Sx n)).length c) ∧ ∃ q, w' = (w.drewN q).setCells b off ((Lib.compact (Lib.strsOf Sx n) ++ List.replicate (n - (Lib.compact (Lib.strsOf Sx n)).length) []).map encStr) := Any.slices_Compact_string_cells Try.lays194 b off n c Sx w hbig hcap hc hf
open Go.RowKit Go.Sort in
/-- .. and plain. (LAID: no walk: one application.) -/
theorem Try.slices_Sort_string_none (p : Option Addr) (cap : Nat) (w : World) :
    Calls Try.prog 69 #[.slice p 0 cap] w fun e w' => e = .returned (.tuple #[]) ∧ w' = w := Any.slices_Sort_string_none Try.lays190 p cap w
open Go.RowKit Go.Lib in
theorem Try.slices_Equal_string_lens (a1 a2 : Option Addr) (n c m d : Nat) (w : World) (hnm : n ≠ m) :
    Calls Try.prog 72 #[.slice a1 n c, .slice a2 m d] w fun e w' => e = .returned (.bool false) ∧ w' = w := Any.slices_Equal_string_lens Try.lays193 a1 a2 n c m d w hnm
end Go.Proofs
namespace Go.Proofs.Ytkeeknlfommieaa.PF
open Go.RowKit Go.Proofs.YtkeeknlfommieaaW.PrintWords Go.Proofs.YtkeeknlfommieaaW.PrintLast Go.Proofs.YtkeeknlfommieaaW.PrintMore

/-- A type's value reads as x in w. -/
def RT (w : World) (v : Value) (x : S26) : Prop := ∃ A3 c3 A4 c4, v = .agg #[.int .i64 x.f0, .int .i64 x.f1, .string x.f2, .slice A3 x.f3.length c3, .slice A4 x.f4.length c4] ∧ x.f3.length ≤ c3 ∧ Kd.string.C w A3 x.f3.length x.f3 ∧ x.f4.length ≤ c4 ∧ k26.C w A4 x.f4.length x.f4
theorem RT.below {w w1 : World} {v : Value} {x : S26} (h : RT w v x) (hb : Below w.heap.size w w1) : RT w1 v x := by
  obtain ⟨A3, c3, A4, c4, e, l3, g3, l4, g4⟩ := h
  exact ⟨A3, c3, A4, c4, e, l3, Kd.C_below g3 hb, l4, Kd.C_below g4 hb⟩
theorem rd_getElem (xs : List S26) (i : Nat) (h : i < xs.length) : rd_T26 xs (i : Int) = xs[i] := by
  simp [rd_T26, List.getD_eq_getElem?_getD, List.getElem?_eq_getElem h]
/-- Element i of a row of types: its cells, and what they read as. -/
theorem el26 {w : World} {A : Option Addr} {xs : List S26} (h : k26.C w A xs.length xs) (i : Nat) (hi : i < xs.length) :
    ∃ ad A3 c3 A4 c4, A = some ad ∧ w.cell? (ad.add (i * 5)) = some (.int .i64 xs[i].f0) ∧ w.cell? ⟨(ad.add (i * 5)).block, (ad.add (i * 5)).off + 1, none⟩ = some (.int .i64 xs[i].f1) ∧ w.cell? ⟨(ad.add (i * 5)).block, (ad.add (i * 5)).off + 2, none⟩ = some (.string xs[i].f2) ∧ w.cell? ⟨(ad.add (i * 5)).block, (ad.add (i * 5)).off + 3, none⟩ = some (.slice A3 xs[i].f3.length c3) ∧ w.cell? ⟨(ad.add (i * 5)).block, (ad.add (i * 5)).off + 4, none⟩ = some (.slice A4 xs[i].f4.length c4)
      ∧ xs[i].f3.length ≤ c3 ∧ Kd.string.C w A3 xs[i].f3.length xs[i].f3 ∧ xs[i].f4.length ≤ c4 ∧ k26.C w A4 xs[i].f4.length xs[i].f4 := by
  obtain ⟨ad, A3, c3, A4, c4, e, h0, h1, h2, h3, h4, h5, h6, h7, h8⟩ := at_T26 h (i : Int) (by omega) (by omega)
  rw [rd_getElem xs i hi] at *
  simp only [Int.toNat_natCast] at *
  exact ⟨ad, A3, c3, A4, c4, e, h0, h1, h2, h3, h4, h5, h6, h7, h8⟩
theorem elS {w : World} {A : Option Addr} {l : List ByteArray} (h : Kd.string.C w A l.length l) (i : Nat) (hi : i < l.length) : ∃ ad, A = some ad ∧ w.cell? (ad.add i) = some (.string l[i]) := by
  obtain ⟨ad, c, e, _, hK, hc⟩ := Kd.C_get h ByteArray.empty (i : Int) (by omega) (by omega)
  obtain rfl : c = [.string (l.getD (i : Int).toNat ByteArray.empty)] := hK
  have h0 := hc 0 _ rfl
  refine ⟨ad, e, ?_⟩
  simpa [Kd.string, Kd.scalar, List.getD_eq_getElem?_getD, List.getElem?_eq_getElem hi] using h0
def bl (l : List ByteArray) : List (List UInt8) := l.map fun s => s.data.toList
theorem bl_length (l : List ByteArray) : (bl l).length = l.length := by simp [bl]
theorem bl_getD (l : List ByteArray) (i : Nat) (hi : i < l.length) : (bl l).getD i [] = (l[i]).data.toList := by simp [bl, List.getD_eq_getElem?_getD, List.getElem?_eq_getElem hi]
theorem ret_bool {a b : Bool} (h : a = b) : Ending.returned (.bool a) = .returned (.bool b) := by rw [h]
theorem ret_int {k : IntKind} {a b : Int} (h : a = b) : Ending.returned (.int k a) = .returned (.int k b) := by rw [h]
end Go.Proofs.Ytkeeknlfommieaa.PF
namespace Go.Proofs.Ytkeeknlfommieaa.PF
open Go.RowKit Go.Proofs.YtkeeknlfommieaaW.PrintWords Go.Proofs.YtkeeknlfommieaaW.PrintLast Go.Proofs.YtkeeknlfommieaaW.PrintMore

/-- The first place at which p holds, from i on; -1. -/
def idxT (p : S26 → Bool) : List S26 → Nat → Int
  | [], _ => -1
  | x :: l, i => if p x then i else idxT p l (i + 1)

theorem idxT_drop (p : S26 → Bool) (xs : List S26) (i : Nat) (h : i < xs.length) : idxT p (xs.drop i) i = if p xs[i] then (i : Int) else idxT p (xs.drop (i + 1)) (i + 1) := by
  rw [List.drop_eq_getElem_cons h, idxT]

/-- A function value that answers p of what reads as a type of xs. -/
def PredT (g : FuncId) (lb : Array Value) (p : S26 → Bool) (xs : List S26) (w : World) : Prop :=
  ∀ x ∈ xs, ∀ (W : World) (A3 : Option Addr) (c3 : Nat) (A4 : Option Addr) (c4 : Nat), Below w.heap.size w W → x.f3.length ≤ c3 → Kd.string.C W A3 x.f3.length x.f3 → x.f4.length ≤ c4 → k26.C W A4 x.f4.length x.f4 →
    Calls Try.prog g (#[.agg #[.int .i64 x.f0, .int .i64 x.f1, .string x.f2, .slice A3 x.f3.length c3, .slice A4 x.f4.length c4]] ++ lb) W fun e W' => e = .returned (.bool (p x)) ∧ Below W.heap.size W W'

set_option maxRecDepth 100000 in
set_option maxHeartbeats 400000 in
theorem indexFunc_calls (g : FuncId) (p : S26 → Bool) (xs : List S26) (A : Option Addr) (c : Nat) (w : World) (hr : k26.C w A xs.length xs) (eg : ∀ args w, (callFunc g args).run Try.prog w = .ok (.enter g args) w) (hp : PredT g #[] p xs w) :
    Calls Try.prog 97 #[.slice A xs.length c, .func (.func g) #[] #[]] w fun e w' => e = .returned (.int .i64 (idxT p xs 0)) ∧ Below w.heap.size w w' := by
  have HR := Aside0.mk hr
  have hlen := hr.2.1
  clear hr
  have HP := Aside0.mk hp
  clear hp
  go_enter Try.func97, Try.ntmps97
  go_wp2_with fail
  go_loopg [8] xs.length (fun gk i wr => ∃ k : Nat, gk + k = xs.length ∧ i = .int .i64 k ∧ Aside0 (idxT p xs 0 = idxT p (xs.drop k) k) ∧ Aside0 (Below w.heap.size w wr))
  case atStart => exact ⟨0, rfl, rfl, ⟨rfl⟩, ⟨Below.refl _ _⟩⟩
  case round =>
    obtain ⟨k, hk, rfl, HI, HB⟩ := hrel
    have HK := Aside0.mk hk
    clear hk
    by_cases hlt : k < xs.length
    · have hltZ : ((k : Int) < (xs.length : Int)) := by omega
      obtain ⟨ad, A3, c3, A4, c4, e, h0, h1, h2, h3, h4, l3, g3, l4, g4⟩ := el26 HR.out k hlt
      cases e
      replace h0 := pw_cell_below HB.out h0
      replace h1 := pw_cell_below HB.out h1
      replace h2 := pw_cell_below HB.out h2
      replace h3 := pw_cell_below HB.out h3
      replace h4 := pw_cell_below HB.out h4
      have HC := HP.out xs[k] (List.getElem_mem hlt) wr A3 c3 A4 c4 HB.out l3 (Kd.C_below g3 HB.out) l4 (Kd.C_below g4 HB.out)
      have HI' := idxT_drop p xs k hlt
      have hl3 := Aside0.mk l3
      clear l3 g3 l4 g4
      generalize hy : xs[k] = y at *
      have HY := Aside0.mk hy
      clear hy
      cases hq : p y with
      | true =>
        rw [hq] at HC HI'
        have HI2 := Aside0.mk HI'
        clear HI' hq
        go_wp2_with (go_at_fn g; refine HC.mono ?_; rintro e w' ⟨rfl, hb'⟩)
        go_ret
        exact ⟨by rw [HI.out, HI2.out]; rfl, HB.out.trans (hb'.mono HB.out.size)⟩
      | false =>
        rw [hq] at HC HI'
        have HI2 := Aside0.mk HI'
        clear HI' hq
        go_wp2_with (go_at_fn g; refine HC.mono ?_; rintro e w' ⟨rfl, hb'⟩)
        go_roundg (gk - 1)
        case measure => have := HK.out; omega
        case rel => exact ⟨k + 1, by have := HK.out; omega, by go_num, ⟨by rw [HI.out, HI2.out]; rfl⟩, ⟨HB.out.trans (hb'.mono HB.out.size)⟩⟩
    · have hltz : ¬ (k : Int) < (xs.length : Int) := by omega
      have hke : k = xs.length := by have := HK.out; omega
      have HKE := Aside0.mk hke
      clear hke
      go_wp2
      go_ret
      exact ⟨by rw [HI.out, HKE.out]; simp [idxT], HB.out⟩

theorem idxT_any (p : S26 → Bool) (xs : List S26) : ∀ i, decide (0 ≤ idxT p xs i) = xs.any p := by
  induction xs with
  | nil => intro i; rfl
  | cons x l ih =>
    intro i
    rw [idxT, List.any_cons]
    cases h : p x with
    | true => simp
    | false => simpa using ih (i + 1)

theorem containsFunc_calls (g : FuncId) (p : S26 → Bool) (xs : List S26) (A : Option Addr) (c : Nat) (w : World) (hr : k26.C w A xs.length xs) (eg : ∀ args w, (callFunc g args).run Try.prog w = .ok (.enter g args) w) (hp : PredT g #[] p xs w) :
    Calls Try.prog 64 #[.slice A xs.length c, .func (.func g) #[] #[]] w fun e w' => e = .returned (.bool (xs.any p)) ∧ Below w.heap.size w w' := by
  have HC := indexFunc_calls g p xs A c w hr eg hp
  have HX := Aside0.mk (idxT_any p xs 0)
  clear hp eg hr
  go_enter Try.func64, Try.ntmps64
  go_wp2_with (go_at_call 97; refine HC.mono ?_; rintro e w' ⟨rfl, hb⟩)
  go_ret
  exact ⟨ret_bool HX.out, hb⟩
end Go.Proofs.Ytkeeknlfommieaa.PF
namespace Go.Proofs.Ytkeeknlfommieaa.PF

def lowB (c : Nat) : Bool := decide (97 ≤ c) && decide (c ≤ 122)
def upB (c : Nat) : Bool := decide (65 ≤ c) && decide (c ≤ 90)
def digB (c : Nat) : Bool := decide (48 ≤ c) && decide (c ≤ 57)
/-- The rest of a name of kind q. -/
def restN (q : Int) (r : List UInt8) : Int := if r.all (fun d => lowB d.toNat || digB d.toNat || (decide (q = 2) && upB d.toNat)) then q else 0
def shapeS (k : Nat) (q : Int) (r : List UInt8) : Int :=
  if k = 0 then (match r with | [] => 0 | c :: t => if lowB c.toNat then restN 1 t else if upB c.toNat then restN 2 t else 0) else restN q r
def shapeN (l : List UInt8) : Int := if 8 < l.length then 0 else shapeS 0 0 l
def keptL : List (List UInt8) := [[108, 101, 116], [105, 110], [105, 102], [116, 104, 101, 110], [101, 108, 115, 101], [102, 110], [99, 97, 108, 108], [100, 101, 102], [116, 114, 117, 101], [102, 97, 108, 115, 101]]
def wordL : List (List UInt8) := [[73, 110, 116], [66, 111, 111, 108], [83, 116, 114, 105, 110, 103], [84, 111, 112]]
def kindN (l : List UInt8) : Int := if l ∈ keptL then 3 else if l ∈ wordL then 4 else shapeN l
def fineN (l : List UInt8) : Bool := kindN l == 1
def varN (l : List UInt8) : Bool := kindN l == 2

theorem restN_cons (q : Int) (c : UInt8) (r : List UInt8) : restN q (c :: r) = if (lowB c.toNat || digB c.toNat || (decide (q = 2) && upB c.toNat)) = true then restN q r else 0 := by
  unfold restN
  rw [List.all_cons]
  cases (lowB c.toNat || digB c.toNat || (decide (q = 2) && upB c.toNat)) <;> simp
theorem shapeS_0nil (q : Int) : shapeS 0 q [] = 0 := rfl
theorem shapeS_0low (q : Int) (c : UInt8) (t : List UInt8) (h : lowB c.toNat = true) : shapeS 0 q (c :: t) = shapeS 1 1 t := by simp [shapeS, h]
theorem shapeS_0up (q : Int) (c : UInt8) (t : List UInt8) (h : lowB c.toNat = false) (h2 : upB c.toNat = true) : shapeS 0 q (c :: t) = shapeS 1 2 t := by simp [shapeS, h, h2]
theorem shapeS_0no (q : Int) (c : UInt8) (t : List UInt8) (h : lowB c.toNat = false) (h2 : upB c.toNat = false) : shapeS 0 q (c :: t) = 0 := by simp [shapeS, h, h2]
theorem shapeS_yes (k : Nat) (q : Int) (c : UInt8) (t : List UInt8) (hk : 0 < k) (h : (lowB c.toNat || digB c.toNat || (decide (q = 2) && upB c.toNat)) = true) : shapeS k q (c :: t) = shapeS (k + 1) q t := by
  simp only [shapeS, restN_cons, h, if_true]
  rw [if_neg (by omega), if_neg (by omega)]
theorem shapeS_no (k : Nat) (q : Int) (c : UInt8) (t : List UInt8) (hk : 0 < k) (h : (lowB c.toNat || digB c.toNat || (decide (q = 2) && upB c.toNat)) = false) : shapeS k q (c :: t) = 0 := by
  simp only [shapeS, restN_cons, h]
  rw [if_neg (by omega), if_neg (by simp)]
theorem shapeS_end (k : Nat) (q : Int) (hk : 0 < k) : shapeS k q [] = q := by simp [shapeS, restN, Nat.ne_of_gt hk]
theorem no_up_of_high {c : Nat} (h : 128 ≤ c) : lowB c = false ∧ upB c = false ∧ digB c = false := by
  unfold lowB upB digB
  simp
  omega

/-- Below n, all. -/
def allUp (n : Nat) (p : Nat → Bool) : Bool := (List.range n).all p
theorem allUp_no {n : Nat} {p : Nat → Bool} {k : Nat} (hk : k < n) (h : p k = false) : allUp n p = false := by
  unfold allUp
  rw [List.all_eq_false]
  exact ⟨k, List.mem_range.2 hk, by simp [h]⟩
theorem allUp_yes {n : Nat} {p : Nat → Bool} (h : ∀ k, k < n → p k = true) : allUp n p = true := by
  unfold allUp
  rw [List.all_eq_true]
  exact fun k hk => h k (List.mem_range.1 hk)
theorem allUp_iff {n : Nat} {p : Nat → Bool} : allUp n p = true ↔ ∀ k, k < n → p k = true := by
  unfold allUp
  rw [List.all_eq_true]
  exact ⟨fun h k hk => h k (List.mem_range.2 hk), fun h k hk => h k (List.mem_range.1 hk)⟩
theorem upTo_step {p : Nat → Bool} {k : Nat} (h : ∀ j, j < k → p j = true) (hk : p k = true) : ∀ j, j < k + 1 → p j = true := by
  intro j hj
  by_cases e : j = k
  · rw [e]; exact hk
  · exact h j (by omega)
/-- A list of names: at place j a name, above the one ahead. -/
def riseAt (l : List (List UInt8)) (j : Nat) : Bool := fineN (l.getD j []) && (decide (j = 0) || Op.bytesLess (l.getD (j - 1) []) (l.getD j []))
def risingN (l : List (List UInt8)) : Bool := allUp l.length (riseAt l)
end Go.Proofs.Ytkeeknlfommieaa.PF
namespace Go.Proofs.Ytkeeknlfommieaa.PF
open Go.RowKit Go.Proofs.YtkeeknlfommieaaW.PrintWords Go.Proofs.YtkeeknlfommieaaW.PrintLast Go.Proofs.YtkeeknlfommieaaW.PrintMore

theorem low_c (c : Nat) (r : Bool) (w : World) (h : lowB c = r) : Calls Try.prog 131 #[.int .i32 c] w fun e w' => e = .returned (.bool r) ∧ w = w' := by
  unfold lowB at h
  by_cases h1 : 97 ≤ c
  · have h1' : ((97 : Int) ≤ (c : Int)) := by omega
    go_enter Try.func131, Try.ntmps131
    go_wp2
    go_ret
    exact ⟨ret_bool (by subst h; rw [Bool.eq_iff_iff]; simp; omega), rfl⟩
  · have h1' : ¬ ((97 : Int) ≤ (c : Int)) := by omega
    go_enter Try.func131, Try.ntmps131
    go_wp2
    go_ret
    exact ⟨ret_bool (by subst h; rw [Bool.eq_iff_iff]; simp; omega), rfl⟩
theorem up_c (c : Nat) (r : Bool) (w : World) (h : upB c = r) : Calls Try.prog 132 #[.int .i32 c] w fun e w' => e = .returned (.bool r) ∧ w = w' := by
  unfold upB at h
  by_cases h1 : 65 ≤ c
  · have h1' : ((65 : Int) ≤ (c : Int)) := by omega
    go_enter Try.func132, Try.ntmps132
    go_wp2
    go_ret
    exact ⟨ret_bool (by subst h; rw [Bool.eq_iff_iff]; simp; omega), rfl⟩
  · have h1' : ¬ ((65 : Int) ≤ (c : Int)) := by omega
    go_enter Try.func132, Try.ntmps132
    go_wp2
    go_ret
    exact ⟨ret_bool (by subst h; rw [Bool.eq_iff_iff]; simp; omega), rfl⟩
theorem dig_c (c : Nat) (r : Bool) (w : World) (h : digB c = r) : Calls Try.prog 133 #[.int .i32 c] w fun e w' => e = .returned (.bool r) ∧ w = w' := by
  unfold digB at h
  by_cases h1 : 48 ≤ c
  · have h1' : ((48 : Int) ≤ (c : Int)) := by omega
    go_enter Try.func133, Try.ntmps133
    go_wp2
    go_ret
    exact ⟨ret_bool (by subst h; rw [Bool.eq_iff_iff]; simp; omega), rfl⟩
  · have h1' : ¬ ((48 : Int) ≤ (c : Int)) := by omega
    go_enter Try.func133, Try.ntmps133
    go_wp2
    go_ret
    exact ⟨ret_bool (by subst h; rw [Bool.eq_iff_iff]; simp; omega), rfl⟩

theorem next_of (s : ByteArray) (pos : Nat) (h : pos < s.size) : ∃ c n : Nat, Utf8.decode s pos = (c, n) ∧ ((c = (s[pos]'h).toNat ∧ n = 1) ∨ (lowB c = false ∧ upB c = false ∧ digB c = false ∧ 128 ≤ (s[pos]'h).toNat)) := by
  by_cases ha : (s[pos]'h).toNat < 128
  · exact ⟨_, _, decode_ascii s pos h ha, .inl ⟨rfl, rfl⟩⟩
  · have := decode_high s pos h (by omega)
    obtain ⟨h1, h2, h3⟩ := no_up_of_high this.1
    exact ⟨_, _, rfl, .inr ⟨h1, h2, h3, by omega⟩⟩
theorem drop_cons (s : ByteArray) (k : Nat) (h : k < s.size) : s.data.toList.drop k = (s[k]'h) :: s.data.toList.drop (k + 1) := by
  rw [List.drop_eq_getElem_cons (by simpa using h)]; rfl

set_option maxRecDepth 100000 in
set_option maxHeartbeats 1000000 in
theorem shape_calls (s : ByteArray) (w : World) : Calls Try.prog 115 #[.string s] w fun e w' => e = .returned (.int .i64 (shapeN s.data.toList)) ∧ Below w.heap.size w w' := by
  by_cases h8 : 8 < s.size
  · have h8' : ((8 : Int) < (s.size : Int)) := by omega
    have HN := Aside0.mk (show shapeN s.data.toList = 0 from by unfold shapeN; rw [if_pos (by simpa using h8)])
    go_enter Try.func115, Try.ntmps115
    go_wp2
    go_ret
    exact ⟨ret_int HN.out.symm, Below.refl _ _⟩
  · have h8' : ¬ ((8 : Int) < (s.size : Int)) := by omega
    have HN := Aside0.mk (show shapeN s.data.toList = shapeS 0 0 s.data.toList from by unfold shapeN; rw [if_neg (by simpa using h8)])
    go_enter Try.func115, Try.ntmps115
    go_wp2_with fail
    go_loopw [3] (fun v wr => ∃ (k : Nat) (q : Int), wr = w.iter s k ∧ v = .int .i64 q ∧ Aside0 (k ≤ s.size ∧ (k = 0 ∧ q = 0 ∨ 0 < k ∧ (q = 1 ∨ q = 2)) ∧ shapeS 0 0 s.data.toList = shapeS k q (s.data.toList.drop k))) (fun _ wr => s.size - wr.iterPos w.heap.size)
    case atStart => exact ⟨0, 0, rfl, rfl, ⟨Nat.zero_le _, .inl ⟨rfl, rfl⟩, rfl⟩⟩
    case round =>
      obtain ⟨k, q, rfl, rfl, HA⟩ := hrel
      by_cases hp : k < s.size
      · obtain ⟨c, n, hcn, hc⟩ := next_of s k hp
        have hnx : ∀ ty, (Instr.next (.pointer (some ⟨w.heap.size, 0, none⟩)) true ty).run Try.prog (w.iter s k) = _ := fun ty => run_next_any w s k ty hp
        rw [hcn] at hnx
        have HCN := Aside0.mk hcn
        have HC := Aside0.mk hc
        have HD := Aside0.mk (drop_cons s k hp)
        clear hcn hc
        obtain ⟨bl, hbl⟩ : ∃ b, lowB c = b := ⟨_, rfl⟩
        obtain ⟨bu, hbu⟩ : ∃ b, upB c = b := ⟨_, rfl⟩
        obtain ⟨bg, hbg⟩ : ∃ b, digB c = b := ⟨_, rfl⟩
        have HL := Aside0.mk hbl
        have HU := Aside0.mk hbu
        have HG := Aside0.mk hbg
        have HP := Aside0.mk hp
        have hasc : (lowB c = true ∨ upB c = true ∨ digB c = true) → c = (s[k]'hp).toNat ∧ n = 1 := by
          intro hh
          rcases HC.out with h | ⟨a1, a2, a3, _⟩
          · exact h
          · simp [a1, a2, a3] at hh
        have hbyte : lowB (s[k]'hp).toNat = bl ∧ upB (s[k]'hp).toNat = bu ∧ digB (s[k]'hp).toNat = bg := by
          rcases HC.out with h | ⟨a1, a2, a3, a4⟩
          · rw [← h.1]; exact ⟨hbl, hbu, hbg⟩
          · obtain ⟨b1, b2, b3⟩ := no_up_of_high a4
            exact ⟨b1.trans (a1.symm.trans hbl), b2.trans (a2.symm.trans hbu), b3.trans (a3.symm.trans hbg)⟩
        have HY := Aside0.mk hbyte
        clear hbyte hbg hbl hbu
        by_cases h0 : k = 0
        · subst h0
          have h0' : (((0 : Nat) : Int) == 0) = true := rfl
          cases bl with
          | true =>
            have hn1 := (hasc (.inl HL.out)).2
            subst hn1
            have HN1 := Aside0.mk (show 0 < s.size from HP.out)
            clear hasc
            go_wp2_with (first | (go_at_call 131; refine (low_c _ _ _ HL.out).mono ?_; rintro e w' ⟨rfl, rfl⟩) | (go_at_call 132; refine (up_c _ _ _ HU.out).mono ?_; rintro e w' ⟨rfl, rfl⟩) | (go_at_call 133; refine (dig_c _ _ _ HG.out).mono ?_; rintro e w' ⟨rfl, rfl⟩))
            go_roundw
            case rel => exact ⟨1, 1, rfl, rfl, ⟨HP.out, .inr ⟨Nat.zero_lt_one, .inl rfl⟩, by rw [HA.out.2.2, HD.out, shapeS_0low _ _ _ HY.out.1]⟩⟩
            case measure => simp; have := HA.out.1; have := HN1.out; omega
          | false =>
            cases bu with
            | true =>
              have hn1 := (hasc (.inr (.inl HU.out))).2
              subst hn1
              have HN1 := Aside0.mk (show 0 < s.size from HP.out)
              clear hasc
              go_wp2_with (first | (go_at_call 131; refine (low_c _ _ _ HL.out).mono ?_; rintro e w' ⟨rfl, rfl⟩) | (go_at_call 132; refine (up_c _ _ _ HU.out).mono ?_; rintro e w' ⟨rfl, rfl⟩) | (go_at_call 133; refine (dig_c _ _ _ HG.out).mono ?_; rintro e w' ⟨rfl, rfl⟩))
              go_roundw
              case rel => exact ⟨1, 2, rfl, rfl, ⟨HP.out, .inr ⟨Nat.zero_lt_one, .inr rfl⟩, by rw [HA.out.2.2, HD.out, shapeS_0up _ _ _ HY.out.1 HY.out.2.1]⟩⟩
              case measure => simp; have := HA.out.1; have := HN1.out; omega
            | false =>
              clear hasc
              go_wp2_with (first | (go_at_call 131; refine (low_c _ _ _ HL.out).mono ?_; rintro e w' ⟨rfl, rfl⟩) | (go_at_call 132; refine (up_c _ _ _ HU.out).mono ?_; rintro e w' ⟨rfl, rfl⟩) | (go_at_call 133; refine (dig_c _ _ _ HG.out).mono ?_; rintro e w' ⟨rfl, rfl⟩))
              go_ret
              exact ⟨ret_int (by rw [HN.out, HA.out.2.2, HD.out, shapeS_0no _ _ _ HY.out.1 HY.out.2.1]), Below.alloc (Below.refl _ _) (Nat.le_refl _) _⟩
        · have hk0 : 0 < k := Nat.pos_of_ne_zero h0
          have h0' : ((k : Int) == 0) = false := beq_eq_false_iff_ne.2 (by omega)
          have h1' : ((0 : Int) < (k : Int)) := by omega
          have hq := HA.out.2.1
          rcases hq with hq | ⟨_, hq⟩
          · exact absurd hq.1 h0
          have HK0 := Aside0.mk hk0
          clear h0 hk0
          rcases hq with rfl | rfl
          all_goals
            cases bl with
            | true =>
              have hn1 := (hasc (.inl HL.out)).2
              subst hn1
              have HN1 := Aside0.mk (show k < s.size from HP.out)
              clear hasc
              go_wp2_with (first | (go_at_call 131; refine (low_c _ _ _ HL.out).mono ?_; rintro e w' ⟨rfl, rfl⟩) | (go_at_call 132; refine (up_c _ _ _ HU.out).mono ?_; rintro e w' ⟨rfl, rfl⟩) | (go_at_call 133; refine (dig_c _ _ _ HG.out).mono ?_; rintro e w' ⟨rfl, rfl⟩))
              go_roundw
              case rel => exact ⟨k + 1, _, rfl, rfl, ⟨HP.out, .inr ⟨Nat.succ_pos _, by first | exact .inl rfl | exact .inr rfl⟩, by rw [HA.out.2.2, HD.out, shapeS_yes _ _ _ _ HK0.out (by rw [HY.out.1]; rfl)]⟩⟩
              case measure => simp; have := HA.out.1; have := HN1.out; omega
            | false =>
              cases bg with
              | true =>
                have hn1 := (hasc (.inr (.inr HG.out))).2
                subst hn1
                have HN1 := Aside0.mk (show k < s.size from HP.out)
                clear hasc
                go_wp2_with (first | (go_at_call 131; refine (low_c _ _ _ HL.out).mono ?_; rintro e w' ⟨rfl, rfl⟩) | (go_at_call 132; refine (up_c _ _ _ HU.out).mono ?_; rintro e w' ⟨rfl, rfl⟩) | (go_at_call 133; refine (dig_c _ _ _ HG.out).mono ?_; rintro e w' ⟨rfl, rfl⟩))
                go_roundw
                case rel => exact ⟨k + 1, _, rfl, rfl, ⟨HP.out, .inr ⟨Nat.succ_pos _, by first | exact .inl rfl | exact .inr rfl⟩, by rw [HA.out.2.2, HD.out, shapeS_yes _ _ _ _ HK0.out (by rw [HY.out.1, HY.out.2.2]; rfl)]⟩⟩
                case measure => simp; have := HA.out.1; have := HN1.out; omega
              | false =>
                cases bu with
                | true =>
                  have hn1 := (hasc (.inr (.inl HU.out))).2
                  subst hn1
                  have HN1 := Aside0.mk (show k < s.size from HP.out)
                  clear hasc
                  first
                  | (go_wp2_with (first | (go_at_call 131; refine (low_c _ _ _ HL.out).mono ?_; rintro e w' ⟨rfl, rfl⟩) | (go_at_call 132; refine (up_c _ _ _ HU.out).mono ?_; rintro e w' ⟨rfl, rfl⟩) | (go_at_call 133; refine (dig_c _ _ _ HG.out).mono ?_; rintro e w' ⟨rfl, rfl⟩)); go_roundw; (case rel => exact ⟨k + 1, _, rfl, rfl, ⟨HP.out, .inr ⟨Nat.succ_pos _, by first | exact .inl rfl | exact .inr rfl⟩, by rw [HA.out.2.2, HD.out, shapeS_yes _ _ _ _ HK0.out (by rw [HY.out.1, HY.out.2.1, HY.out.2.2]; rfl)]⟩⟩); (case measure => simp; have := HA.out.1; have := HN1.out; omega))
                  | (go_wp2_with (first | (go_at_call 131; refine (low_c _ _ _ HL.out).mono ?_; rintro e w' ⟨rfl, rfl⟩) | (go_at_call 132; refine (up_c _ _ _ HU.out).mono ?_; rintro e w' ⟨rfl, rfl⟩) | (go_at_call 133; refine (dig_c _ _ _ HG.out).mono ?_; rintro e w' ⟨rfl, rfl⟩)); go_ret; exact ⟨ret_int (by rw [HN.out, HA.out.2.2, HD.out, shapeS_no _ _ _ _ HK0.out (by rw [HY.out.1, HY.out.2.1, HY.out.2.2]; rfl)]), Below.alloc (Below.refl _ _) (Nat.le_refl _) _⟩)
                | false =>
                  clear hasc
                  (go_wp2_with (first | (go_at_call 131; refine (low_c _ _ _ HL.out).mono ?_; rintro e w' ⟨rfl, rfl⟩) | (go_at_call 132; refine (up_c _ _ _ HU.out).mono ?_; rintro e w' ⟨rfl, rfl⟩) | (go_at_call 133; refine (dig_c _ _ _ HG.out).mono ?_; rintro e w' ⟨rfl, rfl⟩)); go_ret; exact ⟨ret_int (by rw [HN.out, HA.out.2.2, HD.out, shapeS_no _ _ _ _ HK0.out (by rw [HY.out.1, HY.out.2.1, HY.out.2.2]; rfl)]), Below.alloc (Below.refl _ _) (Nat.le_refl _) _⟩)
      · have hnx : ∀ ty, (Instr.next (.pointer (some ⟨w.heap.size, 0, none⟩)) true ty).run Try.prog (w.iter s k) = _ := fun ty => run_next_end w s k ty hp
        have hke : k = s.size := by have := HA.out.1; omega
        have HKE := Aside0.mk hke
        clear hke
        go_wp2
        go_ret
        refine ⟨ret_int ?_, Below.alloc (Below.refl _ _) (Nat.le_refl _) _⟩
        have hd : s.data.toList.drop k = [] := by rw [HKE.out]; simp
        rw [HN.out, HA.out.2.2, hd]
        rcases HA.out.2.1 with ⟨h0, hq⟩ | ⟨h0, _⟩
        · rw [h0, hq, shapeS_0nil]
        · rw [shapeS_end _ _ h0]
end Go.Proofs.Ytkeeknlfommieaa.PF
namespace Go.Proofs.Ytkeeknlfommieaa.PF
open Go.RowKit Go.Proofs.YtkeeknlfommieaaW.PrintWords Go.Proofs.YtkeeknlfommieaaW.PrintLast Go.Proofs.YtkeeknlfommieaaW.PrintMore

theorem toList_eq (s : ByteArray) : s.toList = s.data.toList := ByteArray.toList_eq s

set_option maxRecDepth 100000 in
set_option maxHeartbeats 1000000 in
theorem kind_calls (s : ByteArray) (w : World) : Calls Try.prog 98 #[.string s] w fun e w' => e = .returned (.int .i64 (kindN s.data.toList)) ∧ Below w.heap.size w w' := by
  have HT := Aside0.mk (toList_eq s)
  cases h0 : (s.toList == [108, 101, 116]) with
  | true =>
    have HK := Aside0.mk (show kindN s.data.toList = 3 from by rw [← HT.out, eq_of_beq h0]; decide)
    go_enter Try.func98, Try.ntmps98
    go_wp2_with (go_at_call 115; refine (shape_calls _ _).mono ?_; rintro e w' ⟨rfl, hb⟩)
    go_ret
    exact ⟨ret_int HK.out.symm, hb⟩
  | false =>
  cases h1 : (s.toList == [105, 110]) with
  | true =>
    have HK := Aside0.mk (show kindN s.data.toList = 3 from by rw [← HT.out, eq_of_beq h1]; decide)
    go_enter Try.func98, Try.ntmps98
    go_wp2_with (go_at_call 115; refine (shape_calls _ _).mono ?_; rintro e w' ⟨rfl, hb⟩)
    go_ret
    exact ⟨ret_int HK.out.symm, hb⟩
  | false =>
  cases h2 : (s.toList == [105, 102]) with
  | true =>
    have HK := Aside0.mk (show kindN s.data.toList = 3 from by rw [← HT.out, eq_of_beq h2]; decide)
    go_enter Try.func98, Try.ntmps98
    go_wp2_with (go_at_call 115; refine (shape_calls _ _).mono ?_; rintro e w' ⟨rfl, hb⟩)
    go_ret
    exact ⟨ret_int HK.out.symm, hb⟩
  | false =>
  cases h3 : (s.toList == [116, 104, 101, 110]) with
  | true =>
    have HK := Aside0.mk (show kindN s.data.toList = 3 from by rw [← HT.out, eq_of_beq h3]; decide)
    go_enter Try.func98, Try.ntmps98
    go_wp2_with (go_at_call 115; refine (shape_calls _ _).mono ?_; rintro e w' ⟨rfl, hb⟩)
    go_ret
    exact ⟨ret_int HK.out.symm, hb⟩
  | false =>
  cases h4 : (s.toList == [101, 108, 115, 101]) with
  | true =>
    have HK := Aside0.mk (show kindN s.data.toList = 3 from by rw [← HT.out, eq_of_beq h4]; decide)
    go_enter Try.func98, Try.ntmps98
    go_wp2_with (go_at_call 115; refine (shape_calls _ _).mono ?_; rintro e w' ⟨rfl, hb⟩)
    go_ret
    exact ⟨ret_int HK.out.symm, hb⟩
  | false =>
  cases h5 : (s.toList == [102, 110]) with
  | true =>
    have HK := Aside0.mk (show kindN s.data.toList = 3 from by rw [← HT.out, eq_of_beq h5]; decide)
    go_enter Try.func98, Try.ntmps98
    go_wp2_with (go_at_call 115; refine (shape_calls _ _).mono ?_; rintro e w' ⟨rfl, hb⟩)
    go_ret
    exact ⟨ret_int HK.out.symm, hb⟩
  | false =>
  cases h6 : (s.toList == [99, 97, 108, 108]) with
  | true =>
    have HK := Aside0.mk (show kindN s.data.toList = 3 from by rw [← HT.out, eq_of_beq h6]; decide)
    go_enter Try.func98, Try.ntmps98
    go_wp2_with (go_at_call 115; refine (shape_calls _ _).mono ?_; rintro e w' ⟨rfl, hb⟩)
    go_ret
    exact ⟨ret_int HK.out.symm, hb⟩
  | false =>
  cases h7 : (s.toList == [100, 101, 102]) with
  | true =>
    have HK := Aside0.mk (show kindN s.data.toList = 3 from by rw [← HT.out, eq_of_beq h7]; decide)
    go_enter Try.func98, Try.ntmps98
    go_wp2_with (go_at_call 115; refine (shape_calls _ _).mono ?_; rintro e w' ⟨rfl, hb⟩)
    go_ret
    exact ⟨ret_int HK.out.symm, hb⟩
  | false =>
  cases h8 : (s.toList == [116, 114, 117, 101]) with
  | true =>
    have HK := Aside0.mk (show kindN s.data.toList = 3 from by rw [← HT.out, eq_of_beq h8]; decide)
    go_enter Try.func98, Try.ntmps98
    go_wp2_with (go_at_call 115; refine (shape_calls _ _).mono ?_; rintro e w' ⟨rfl, hb⟩)
    go_ret
    exact ⟨ret_int HK.out.symm, hb⟩
  | false =>
  cases h9 : (s.toList == [102, 97, 108, 115, 101]) with
  | true =>
    have HK := Aside0.mk (show kindN s.data.toList = 3 from by rw [← HT.out, eq_of_beq h9]; decide)
    go_enter Try.func98, Try.ntmps98
    go_wp2_with (go_at_call 115; refine (shape_calls _ _).mono ?_; rintro e w' ⟨rfl, hb⟩)
    go_ret
    exact ⟨ret_int HK.out.symm, hb⟩
  | false =>
  cases h10 : (s.toList == [73, 110, 116]) with
  | true =>
    have HK := Aside0.mk (show kindN s.data.toList = 4 from by rw [← HT.out, eq_of_beq h10]; decide)
    go_enter Try.func98, Try.ntmps98
    go_wp2_with (go_at_call 115; refine (shape_calls _ _).mono ?_; rintro e w' ⟨rfl, hb⟩)
    go_ret
    exact ⟨ret_int HK.out.symm, hb⟩
  | false =>
  cases h11 : (s.toList == [66, 111, 111, 108]) with
  | true =>
    have HK := Aside0.mk (show kindN s.data.toList = 4 from by rw [← HT.out, eq_of_beq h11]; decide)
    go_enter Try.func98, Try.ntmps98
    go_wp2_with (go_at_call 115; refine (shape_calls _ _).mono ?_; rintro e w' ⟨rfl, hb⟩)
    go_ret
    exact ⟨ret_int HK.out.symm, hb⟩
  | false =>
  cases h12 : (s.toList == [83, 116, 114, 105, 110, 103]) with
  | true =>
    have HK := Aside0.mk (show kindN s.data.toList = 4 from by rw [← HT.out, eq_of_beq h12]; decide)
    go_enter Try.func98, Try.ntmps98
    go_wp2_with (go_at_call 115; refine (shape_calls _ _).mono ?_; rintro e w' ⟨rfl, hb⟩)
    go_ret
    exact ⟨ret_int HK.out.symm, hb⟩
  | false =>
  cases h13 : (s.toList == [84, 111, 112]) with
  | true =>
    have HK := Aside0.mk (show kindN s.data.toList = 4 from by rw [← HT.out, eq_of_beq h13]; decide)
    go_enter Try.func98, Try.ntmps98
    go_wp2_with (go_at_call 115; refine (shape_calls _ _).mono ?_; rintro e w' ⟨rfl, hb⟩)
    go_ret
    exact ⟨ret_int HK.out.symm, hb⟩
  | false =>
  have HK := Aside0.mk (show kindN s.data.toList = shapeN s.data.toList from by rw [← HT.out]; unfold kindN; rw [if_neg (by simp only [keptL, List.mem_cons, List.not_mem_nil, or_false, not_or]; exact ⟨ne_of_beq_false h0, ne_of_beq_false h1, ne_of_beq_false h2, ne_of_beq_false h3, ne_of_beq_false h4, ne_of_beq_false h5, ne_of_beq_false h6, ne_of_beq_false h7, ne_of_beq_false h8, ne_of_beq_false h9⟩), if_neg (by simp only [wordL, List.mem_cons, List.not_mem_nil, or_false, not_or]; exact ⟨ne_of_beq_false h10, ne_of_beq_false h11, ne_of_beq_false h12, ne_of_beq_false h13⟩)])
  go_enter Try.func98, Try.ntmps98
  go_wp2_with (go_at_call 115; refine (shape_calls _ _).mono ?_; rintro e w' ⟨rfl, hb⟩)
  go_ret
  exact ⟨ret_int HK.out.symm, hb⟩

theorem fine_calls (s : ByteArray) (w : World) : Calls Try.prog 99 #[.string s] w fun e w' => e = .returned (.bool (fineN s.data.toList)) ∧ Below w.heap.size w w' := by
  go_enter Try.func99, Try.ntmps99
  go_wp2_with (go_at_call 98; refine (kind_calls _ _).mono ?_; rintro e w' ⟨rfl, hb⟩)
  go_ret
  exact ⟨rfl, hb⟩
theorem var_calls (s : ByteArray) (w : World) : Calls Try.prog 66 #[.string s] w fun e w' => e = .returned (.bool (varN s.data.toList)) ∧ Below w.heap.size w w' := by
  go_enter Try.func66, Try.ntmps66
  go_wp2_with (go_at_call 98; refine (kind_calls _ _).mono ?_; rintro e w' ⟨rfl, hb⟩)
  go_ret
  exact ⟨rfl, hb⟩
set_option maxRecDepth 100000 in
set_option maxHeartbeats 1000000 in
theorem rising_calls (A : Option Addr) (c : Nat) (l : List ByteArray) (w : World) (hr : Kd.string.C w A l.length l) : Calls Try.prog 67 #[.slice A l.length c] w fun e w' => e = .returned (.bool (risingN (bl l))) ∧ Below w.heap.size w w' := by
  have HR := Aside0.mk hr
  have hlen := hr.2.1
  clear hr
  go_enter Try.func67, Try.ntmps67
  go_wp2_with fail
  go_loopg [7] l.length (fun gk i wr => ∃ k : Nat, i = .int .i64 k ∧ Aside0 (gk + k = l.length) ∧ Aside0 (∀ j, j < k → riseAt (bl l) j = true) ∧ Aside0 (Below w.heap.size w wr))
  case atStart => exact ⟨0, rfl, ⟨rfl⟩, ⟨fun j hj => absurd hj (Nat.not_lt_zero _)⟩, ⟨Below.refl _ _⟩⟩
  case round =>
    obtain ⟨k, rfl, HK, HI, HB⟩ := hrel
    by_cases hlt : k < l.length
    · have hltZ : ((k : Int) < (l.length : Int)) := by omega
      obtain ⟨ad, e, h0⟩ := elS HR.out k hlt
      cases e
      replace h0 := pw_cell_below HB.out h0
      have HLT := Aside0.mk hlt
      obtain ⟨bf, hbf⟩ : ∃ b, fineN (l[k]).data.toList = b := ⟨_, rfl⟩
      have HF := Aside0.mk hbf
      have HG := Aside0.mk (bl_getD l k hlt)
      cases bf with
      | false =>
        have HX := Aside0.mk (show risingN (bl l) = false from allUp_no (k := k) (by rw [bl_length]; exact hlt) (by unfold riseAt; rw [HG.out, hbf]; rfl))
        clear hbf
        go_wp2_with (go_at_call 99; refine (fine_calls _ _).mono ?_; rw [HF.out]; rintro e w' ⟨rfl, hb⟩)
        go_ret
        exact ⟨ret_bool HX.out.symm, HB.out.trans (hb.mono HB.out.size)⟩
      | true =>
        clear hbf
        by_cases hk0 : k = 0
        · have hz : ¬ ((0 : Int) < (k : Int)) := by omega
          have HK0 := Aside0.mk hk0
          have HX := Aside0.mk (show riseAt (bl l) k = true from by unfold riseAt; rw [HG.out, HF.out]; simp [hk0])
          clear hk0
          go_wp2_with (go_at_call 99; refine (fine_calls _ _).mono ?_; rw [HF.out]; rintro e w' ⟨rfl, hb⟩)
          go_roundg (gk - 1)
          case measure => have := HK.out; have := HLT.out; omega
          case rel => exact ⟨k + 1, by go_num, ⟨by have := HK.out; have := HLT.out; omega⟩, ⟨upTo_step HI.out HX.out⟩, ⟨HB.out.trans (hb.mono HB.out.size)⟩⟩
        · have hz : ((0 : Int) < (k : Int)) := by omega
          obtain ⟨ad', e', h1⟩ := elS HR.out (k - 1) (by omega)
          cases e'
          have HP := Aside0.mk (bl_getD l (k - 1) (by omega))
          have hc1 : ((k : Int) - 1).toNat = k - 1 := by omega
          have hk1 : (0 : Int) ≤ (k : Int) - 1 := by omega
          have hk2 : (k : Int) - 1 < (l.length : Int) := by omega
          have HK0 := Aside0.mk hk0
          clear hk0
          replace h1 := pw_cell_below HB.out h1
          have HL := Aside0.mk (show ∀ b, Op.bytesLess (l[k - 1]).toList (l[k]).toList = b → riseAt (bl l) k = b from fun b hb => by
            unfold riseAt; rw [HG.out, HF.out, HP.out, ← toList_eq, ← toList_eq, hb]; simp [HK0.out])
          go_wp2_with (go_at_call 99; refine (fine_calls _ _).mono ?_; rw [HF.out]; rintro e w' ⟨rfl, hb⟩; have h1' := pw_cell_below hb h1)
          · have hb2 : (!Op.bytesLess (l[k - 1]).toList (l[k]).toList) = true := by assumption
            have HX := HL.out _ (by simpa using hb2)
            go_ret
            exact ⟨ret_bool (Eq.symm (allUp_no (k := k) (by rw [bl_length]; exact HLT.out) HX)), HB.out.trans (hb.mono HB.out.size)⟩
          · have hb2 : (!Op.bytesLess (l[k - 1]).toList (l[k]).toList) = false := by assumption
            have HX := Aside0.mk (HL.out _ (by simpa using hb2))
            clear hb2
            go_roundg (gk - 1)
            case measure => have := HK.out; have := HLT.out; omega
            case rel => exact ⟨k + 1, by go_num, ⟨by have := HK.out; have := HLT.out; omega⟩, ⟨upTo_step HI.out HX.out⟩, ⟨HB.out.trans (hb.mono HB.out.size)⟩⟩
    · have hltz : ¬ (k : Int) < (l.length : Int) := by omega
      have HKE := Aside0.mk (show k = l.length from by have := HK.out; omega)
      have HX := Aside0.mk (show risingN (bl l) = true from allUp_yes (fun j hj => HI.out j (by rw [bl_length] at hj; rw [HKE.out]; exact hj)))
      go_wp2
      go_ret
      exact ⟨ret_bool HX.out.symm, HB.out⟩
end Go.Proofs.Ytkeeknlfommieaa.PF
namespace Go.Proofs.Ytkeeknlfommieaa.PF

theorem S26.ind {P : S26 → Prop} (h : ∀ k n nm ls ar, (∀ x ∈ ar, P x) → P ⟨k, n, nm, ls, ar⟩) : ∀ t, P t
  | ⟨k, n, nm, ls, ar⟩ => h k n nm ls ar (fun x _ => S26.ind h x)
termination_by t => SizeOf.sizeOf t

def bareT (k n : Int) (nm : ByteArray) (ls : List ByteArray) : Bool := (decide (k = 6) || nm.data.toList.isEmpty) && (decide (k = 9) || decide (n = 0)) && (decide (k = 8) || decide (ls.length = 0))
def kindT (k n : Int) (nm : ByteArray) (ls : List ByteArray) (m : Nat) : Bool :=
  if 1 ≤ k ∧ k ≤ 5 then decide (m = 0) else if k = 6 then decide (m = 0) && varN nm.data.toList else if k = 9 then decide (m = 0) && decide (0 ≤ n ∧ n ≤ 1073741824)
  else if k = 7 then decide (m = 2) else if k = 8 then decide (m = ls.length) && risingN (bl ls) else false
mutual
def rightT : S26 → Bool
  | ⟨k, n, nm, ls, ar⟩ => bareT k n nm ls && rightL ar && kindT k n nm ls ar.length
def rightL : List S26 → Bool
  | [] => true
  | x :: l => rightT x && rightL l
end
theorem rightL_all (l : List S26) : rightL l = l.all rightT := by
  induction l with
  | nil => rfl
  | cons x l ih => rw [rightL, List.all_cons, ih]
theorem rightT_eq (t : S26) : rightT t = (bareT t.f0 t.f1 t.f2 t.f3 && t.f4.all rightT && kindT t.f0 t.f1 t.f2 t.f3 t.f4.length) := by
  cases t
  rw [rightT, rightL_all]
theorem any_not (l : List S26) : (l.any fun x => !rightT x) = !l.all rightT := by
  induction l with
  | nil => rfl
  | cons x l ih => rw [List.any_cons, List.all_cons, ih, Bool.not_and]
end Go.Proofs.Ytkeeknlfommieaa.PF
namespace Go.Proofs.Ytkeeknlfommieaa.PF
open Go.RowKit Go.Shelf Go.Proofs.YtkeeknlfommieaaW.PrintWords Go.Proofs.YtkeeknlfommieaaW.PrintLast Go.Proofs.YtkeeknlfommieaaW.PrintMore

theorem bcell {W w1 : World} (hb : Below W.heap.size W w1) : (∀ b o, b < W.heap.size → w1.cell? ⟨b, o, none⟩ = W.cell? ⟨b, o, none⟩) ∧ (∀ b o, b < W.heap.size → w1.frozen? ⟨b, o, none⟩ = W.frozen? ⟨b, o, none⟩) :=
  ⟨fun b o h => hb.cell (p := ⟨b, o, none⟩) h, fun b o h => hb.frozen (p := ⟨b, o, none⟩) h⟩
theorem bare_eq (k n : Int) (nm : ByteArray) (ls : List ByteArray) (ar : List S26) : ty_bare.f k n nm ls ar = some (bareT k n nm ls) := by
  have e : (nm.toList = ([] : List UInt8)) = (nm.data.toList.isEmpty = true) := by rw [ByteArray.toList_eq]; simp
  have e2 : ((ls.length : Int) == 0) = decide (ls.length = 0) := by rw [Bool.eq_iff_iff]; simp
  unfold ty_bare.f bareT
  simp only [e, e2]
  cases nm.data.toList.isEmpty <;> by_cases h6 : k = 6 <;> by_cases h9 : k = 9 <;> by_cases h8 : k = 8 <;> by_cases hn : n = 0 <;> simp [h6, h9, h8, hn] <;> omega

theorem right1_calls (x : S26) (W : World) (A3 : Option Addr) (c3 : Nat) (A4 : Option Addr) (c4 : Nat)
    (hR : ∀ W', Below W.heap.size W W' → Calls Try.prog 26 #[.agg #[.int .i64 x.f0, .int .i64 x.f1, .string x.f2, .slice A3 x.f3.length c3, .slice A4 x.f4.length c4]] W' fun e W'' => e = .returned (.bool (rightT x)) ∧ Below W'.heap.size W' W'') :
    Calls Try.prog 65 #[.agg #[.int .i64 x.f0, .int .i64 x.f1, .string x.f2, .slice A3 x.f3.length c3, .slice A4 x.f4.length c4]] W fun e W' => e = .returned (.bool (!rightT x)) ∧ Below W.heap.size W W' := by
  have HR := Aside0.mk hR
  clear hR
  go_enter Try.func65, Try.ntmps65
  go_wp2_with (go_at_call 26; refine (HR.out _ (below_alloc (Below.refl _ _) _)).mono ?_; rintro e w' ⟨rfl, hb⟩)
  go_ret
  exact ⟨rfl, (below_alloc (Below.refl _ _) _).trans (hb.mono (by simp))⟩

set_option maxRecDepth 100000 in
set_option maxHeartbeats 2000000 in
theorem right_calls (t : S26) : ∀ (w : World) (A3 : Option Addr) (c3 : Nat) (A4 : Option Addr) (c4 : Nat) (_ : t.f3.length ≤ c3) (_ : Kd.string.C w A3 t.f3.length t.f3) (_ : t.f4.length ≤ c4) (_ : k26.C w A4 t.f4.length t.f4),
    Calls Try.prog 26 #[.agg #[.int .i64 t.f0, .int .i64 t.f1, .string t.f2, .slice A3 t.f3.length c3, .slice A4 t.f4.length c4]] w fun e w' => e = .returned (.bool (rightT t)) ∧ Below w.heap.size w w' := by
  induction t using S26.ind with
  | h k n nm ls ar ih =>
  intro w A3 c3 A4 c4 l3 g3 l4 g4
  dsimp only at l3 g3 l4 g4 ⊢
  have HB := fun (W : World) (hb : Below w.heap.size w W) => ty_bare.calls k n nm A3 c3 ls A4 c4 ar (bareT k n nm ls) W (Kd.C_below g3 hb) l3 (Kd.C_below g4 hb) l4 (bare_eq _ _ _ _ _)
  have HC := fun (W : World) (hb : Below w.heap.size w W) => containsFunc_calls 65 (fun x => !rightT x) ar A4 c4 W (Kd.C_below g4 hb) (enters_of Try.func65 (by kernel_rfl) rfl)
    (fun x hx W' B3 d3 B4 d4 hbW m3 q3 m4 q4 => right1_calls x W' B3 d3 B4 d4 (fun W'' hb'' => ih x hx W'' B3 d3 B4 d4 m3 (Kd.C_below q3 hb'') m4 (Kd.C_below q4 hb'')))
  have HB' := Aside0.mk HB
  have HC' := Aside0.mk HC
  have HE := Aside0.mk (rightT_eq ⟨k, n, nm, ls, ar⟩)
  have HG3 := Aside0.mk g3
  have HG4 := Aside0.mk g4
  clear HB HC ih g3 g4 l3 l4
  have hany := any_not ar
  obtain ⟨bb, hbb⟩ : ∃ b, bareT k n nm ls = b := ⟨_, rfl⟩
  obtain ⟨bc, hbc⟩ : ∃ b, (ar.any fun x => !rightT x) = b := ⟨_, rfl⟩
  have HBV := Aside0.mk hbb
  have HCV := Aside0.mk hbc
  have HAV := Aside0.mk hany
  clear hbb hbc hany
  cases bb with
  | false =>
    go_enter Try.func26, Try.ntmps26
    go_wp2_with (first | (go_at_call 63; refine (HB'.out _ (below_alloc (Below.refl _ _) _)).mono ?_; rw [HBV.out]; rintro e w1 ⟨rfl, hb1⟩; obtain ⟨hcell, hfroz⟩ := bcell hb1; have HB1 := Aside0.mk hb1; have hz1 : w.heap.size < w1.heap.size := (by have h_ := hb1.size; simp only [World.size_alloc] at h_; omega); clear hb1) | (go_at_call 64; refine (HC'.out _ ((below_alloc (Below.refl _ _) _).trans (HB1.out.mono (by simp)))).mono ?_; rw [HCV.out]; rintro e w2 ⟨rfl, hb2⟩; obtain ⟨hcell2, hfroz2⟩ := bcell hb2; have HB2 := Aside0.mk hb2; have hz2 : w.heap.size < w2.heap.size := Nat.lt_of_lt_of_le hz1 hb2.size; clear hb2))
    go_ret
    exact ⟨ret_bool (by rw [HE.out]; simp only [HBV.out, Bool.false_and]), (below_alloc (Below.refl _ _) _).trans (HB1.out.mono (by simp))⟩
  | true =>
    cases bc with
    | true =>
      go_enter Try.func26, Try.ntmps26
      go_wp2_with (first | (go_at_call 63; refine (HB'.out _ (below_alloc (Below.refl _ _) _)).mono ?_; rw [HBV.out]; rintro e w1 ⟨rfl, hb1⟩; obtain ⟨hcell, hfroz⟩ := bcell hb1; have HB1 := Aside0.mk hb1; have hz1 : w.heap.size < w1.heap.size := (by have h_ := hb1.size; simp only [World.size_alloc] at h_; omega); clear hb1) | (go_at_call 64; refine (HC'.out _ ((below_alloc (Below.refl _ _) _).trans (HB1.out.mono (by simp)))).mono ?_; rw [HCV.out]; rintro e w2 ⟨rfl, hb2⟩; obtain ⟨hcell2, hfroz2⟩ := bcell hb2; have HB2 := Aside0.mk hb2; have hz2 : w.heap.size < w2.heap.size := Nat.lt_of_lt_of_le hz1 hb2.size; clear hb2))
      go_ret
      exact ⟨ret_bool (by rw [HE.out]; have := HAV.out.symm.trans HCV.out; simp only [Bool.not_eq_true'] at this; simp only [HBV.out, this, Bool.false_and, Bool.and_false]), ((below_alloc (Below.refl _ _) _).trans (HB1.out.mono (by simp))).trans (HB2.out.mono (by omega))⟩
    | false =>
      have hE : rightT ⟨k, n, nm, ls, ar⟩ = kindT k n nm ls ar.length := by
        rw [HE.out]; have := HAV.out.symm.trans HCV.out; simp only [Bool.not_eq_false'] at this; simp only [HBV.out, this, Bool.true_and]
      have HE2 := Aside0.mk hE
      clear hE HE HAV
      by_cases h15 : k = 1 ∨ k = 2 ∨ k = 3 ∨ k = 4 ∨ k = 5
      · have HK := Aside0.mk (show kindT k n nm ls ar.length = decide (ar.length = 0) from by unfold kindT; rw [if_pos (by omega)])
        have HK0 := Aside0.mk (show ((ar.length : Int) == 0) = decide (ar.length = 0) from by rw [Bool.eq_iff_iff]; simp)
        rcases h15 with rfl | rfl | rfl | rfl | rfl
        all_goals
          go_enter Try.func26, Try.ntmps26
          go_wp2_with (first | (go_at_call 63; refine (HB'.out _ (below_alloc (Below.refl _ _) _)).mono ?_; rw [HBV.out]; rintro e w1 ⟨rfl, hb1⟩; obtain ⟨hcell, hfroz⟩ := bcell hb1; have HB1 := Aside0.mk hb1; have hz1 : w.heap.size < w1.heap.size := (by have h_ := hb1.size; simp only [World.size_alloc] at h_; omega); clear hb1) | (go_at_call 64; refine (HC'.out _ ((below_alloc (Below.refl _ _) _).trans (HB1.out.mono (by simp)))).mono ?_; rw [HCV.out]; rintro e w2 ⟨rfl, hb2⟩; obtain ⟨hcell2, hfroz2⟩ := bcell hb2; have HB2 := Aside0.mk hb2; have hz2 : w.heap.size < w2.heap.size := Nat.lt_of_lt_of_le hz1 hb2.size; clear hb2))
          go_ret
          exact ⟨ret_bool (by rw [HE2.out, HK.out]; exact HK0.out), ((below_alloc (Below.refl _ _) _).trans (HB1.out.mono (by simp))).trans (HB2.out.mono (by omega))⟩
      have n1 : (k == 1) = false := beq_eq_false_iff_ne.2 (by omega)
      have n2 : (k == 2) = false := beq_eq_false_iff_ne.2 (by omega)
      have n3 : (k == 3) = false := beq_eq_false_iff_ne.2 (by omega)
      have n4 : (k == 4) = false := beq_eq_false_iff_ne.2 (by omega)
      have n5 : (k == 5) = false := beq_eq_false_iff_ne.2 (by omega)
      have hk15 : ¬ (1 ≤ k ∧ k ≤ 5) := by omega
      clear h15
      by_cases h6 : k = 6
      · subst h6
        clear n1 n2 n3 n4 n5 hk15
        have HK := Aside0.mk (show kindT 6 n nm ls ar.length = (decide (ar.length = 0) && varN nm.data.toList) from by unfold kindT; simp)
        by_cases hl : ar.length = 0
        · have hl' : ((ar.length : Int) == 0) = true := beq_iff_eq.2 (by omega)
          have HL := Aside0.mk hl
          clear hl
          go_enter Try.func26, Try.ntmps26
          go_wp2_with (first | (go_at_call 63; refine (HB'.out _ (below_alloc (Below.refl _ _) _)).mono ?_; rw [HBV.out]; rintro e w1 ⟨rfl, hb1⟩; obtain ⟨hcell, hfroz⟩ := bcell hb1; have HB1 := Aside0.mk hb1; have hz1 : w.heap.size < w1.heap.size := (by have h_ := hb1.size; simp only [World.size_alloc] at h_; omega); clear hb1) | (go_at_call 64; refine (HC'.out _ ((below_alloc (Below.refl _ _) _).trans (HB1.out.mono (by simp)))).mono ?_; rw [HCV.out]; rintro e w2 ⟨rfl, hb2⟩; obtain ⟨hcell2, hfroz2⟩ := bcell hb2; have HB2 := Aside0.mk hb2; have hz2 : w.heap.size < w2.heap.size := Nat.lt_of_lt_of_le hz1 hb2.size; clear hb2) | (go_at_call 66; refine (var_calls _ _).mono ?_; rintro e w3 ⟨rfl, hb3⟩))
          go_ret
          exact ⟨ret_bool (by rw [HE2.out, HK.out, HL.out]; rfl), (((below_alloc (Below.refl _ _) _).trans (HB1.out.mono (by simp))).trans (HB2.out.mono (by omega))).trans (hb3.mono (by omega))⟩
        · have hl' : ((ar.length : Int) == 0) = false := beq_eq_false_iff_ne.2 (by omega)
          have HL := Aside0.mk (decide_eq_false hl)
          clear hl
          go_enter Try.func26, Try.ntmps26
          go_wp2_with (first | (go_at_call 63; refine (HB'.out _ (below_alloc (Below.refl _ _) _)).mono ?_; rw [HBV.out]; rintro e w1 ⟨rfl, hb1⟩; obtain ⟨hcell, hfroz⟩ := bcell hb1; have HB1 := Aside0.mk hb1; have hz1 : w.heap.size < w1.heap.size := (by have h_ := hb1.size; simp only [World.size_alloc] at h_; omega); clear hb1) | (go_at_call 64; refine (HC'.out _ ((below_alloc (Below.refl _ _) _).trans (HB1.out.mono (by simp)))).mono ?_; rw [HCV.out]; rintro e w2 ⟨rfl, hb2⟩; obtain ⟨hcell2, hfroz2⟩ := bcell hb2; have HB2 := Aside0.mk hb2; have hz2 : w.heap.size < w2.heap.size := Nat.lt_of_lt_of_le hz1 hb2.size; clear hb2))
          go_ret
          exact ⟨ret_bool (by rw [HE2.out, HK.out, HL.out]; rfl), ((below_alloc (Below.refl _ _) _).trans (HB1.out.mono (by simp))).trans (HB2.out.mono (by omega))⟩
      by_cases h9 : k = 9
      · subst h9
        clear n1 n2 n3 n4 n5 hk15 h6
        have HK := Aside0.mk (show kindT 9 n nm ls ar.length = (decide (ar.length = 0) && decide (0 ≤ n ∧ n ≤ 1073741824)) from by unfold kindT; simp)
        by_cases hl : ar.length = 0
        · have hl' : ((ar.length : Int) == 0) = true := beq_iff_eq.2 (by omega)
          have HL := Aside0.mk hl
          clear hl
          by_cases hn0 : 0 ≤ n
          · have HN := Aside0.mk (show decide (0 ≤ n ∧ n ≤ 1073741824) = decide (n ≤ 1073741824) from by rw [Bool.eq_iff_iff]; simp [hn0])
            go_enter Try.func26, Try.ntmps26
            go_wp2_with (first | (go_at_call 63; refine (HB'.out _ (below_alloc (Below.refl _ _) _)).mono ?_; rw [HBV.out]; rintro e w1 ⟨rfl, hb1⟩; obtain ⟨hcell, hfroz⟩ := bcell hb1; have HB1 := Aside0.mk hb1; have hz1 : w.heap.size < w1.heap.size := (by have h_ := hb1.size; simp only [World.size_alloc] at h_; omega); clear hb1) | (go_at_call 64; refine (HC'.out _ ((below_alloc (Below.refl _ _) _).trans (HB1.out.mono (by simp)))).mono ?_; rw [HCV.out]; rintro e w2 ⟨rfl, hb2⟩; obtain ⟨hcell2, hfroz2⟩ := bcell hb2; have HB2 := Aside0.mk hb2; have hz2 : w.heap.size < w2.heap.size := Nat.lt_of_lt_of_le hz1 hb2.size; clear hb2))
            go_ret
            exact ⟨ret_bool (by rw [HE2.out, HK.out, HL.out, HN.out]; rfl), ((below_alloc (Below.refl _ _) _).trans (HB1.out.mono (by simp))).trans (HB2.out.mono (by omega))⟩
          · have HN := Aside0.mk (show decide (0 ≤ n ∧ n ≤ 1073741824) = false from by simp [hn0])
            go_enter Try.func26, Try.ntmps26
            go_wp2_with (first | (go_at_call 63; refine (HB'.out _ (below_alloc (Below.refl _ _) _)).mono ?_; rw [HBV.out]; rintro e w1 ⟨rfl, hb1⟩; obtain ⟨hcell, hfroz⟩ := bcell hb1; have HB1 := Aside0.mk hb1; have hz1 : w.heap.size < w1.heap.size := (by have h_ := hb1.size; simp only [World.size_alloc] at h_; omega); clear hb1) | (go_at_call 64; refine (HC'.out _ ((below_alloc (Below.refl _ _) _).trans (HB1.out.mono (by simp)))).mono ?_; rw [HCV.out]; rintro e w2 ⟨rfl, hb2⟩; obtain ⟨hcell2, hfroz2⟩ := bcell hb2; have HB2 := Aside0.mk hb2; have hz2 : w.heap.size < w2.heap.size := Nat.lt_of_lt_of_le hz1 hb2.size; clear hb2))
            go_ret
            exact ⟨ret_bool (by rw [HE2.out, HK.out, HL.out, HN.out]; rfl), ((below_alloc (Below.refl _ _) _).trans (HB1.out.mono (by simp))).trans (HB2.out.mono (by omega))⟩
        · have hl' : ((ar.length : Int) == 0) = false := beq_eq_false_iff_ne.2 (by omega)
          have HL := Aside0.mk (decide_eq_false hl)
          clear hl
          go_enter Try.func26, Try.ntmps26
          go_wp2_with (first | (go_at_call 63; refine (HB'.out _ (below_alloc (Below.refl _ _) _)).mono ?_; rw [HBV.out]; rintro e w1 ⟨rfl, hb1⟩; obtain ⟨hcell, hfroz⟩ := bcell hb1; have HB1 := Aside0.mk hb1; have hz1 : w.heap.size < w1.heap.size := (by have h_ := hb1.size; simp only [World.size_alloc] at h_; omega); clear hb1) | (go_at_call 64; refine (HC'.out _ ((below_alloc (Below.refl _ _) _).trans (HB1.out.mono (by simp)))).mono ?_; rw [HCV.out]; rintro e w2 ⟨rfl, hb2⟩; obtain ⟨hcell2, hfroz2⟩ := bcell hb2; have HB2 := Aside0.mk hb2; have hz2 : w.heap.size < w2.heap.size := Nat.lt_of_lt_of_le hz1 hb2.size; clear hb2))
          go_ret
          exact ⟨ret_bool (by rw [HE2.out, HK.out, HL.out]; rfl), ((below_alloc (Below.refl _ _) _).trans (HB1.out.mono (by simp))).trans (HB2.out.mono (by omega))⟩
      by_cases h7 : k = 7
      · subst h7
        clear n1 n2 n3 n4 n5 hk15 h6 h9
        have HK := Aside0.mk (show kindT 7 n nm ls ar.length = decide (ar.length = 2) from by unfold kindT; simp)
        have HK0 := Aside0.mk (show ((ar.length : Int) == 2) = decide (ar.length = 2) from by rw [Bool.eq_iff_iff]; simp; omega)
        go_enter Try.func26, Try.ntmps26
        go_wp2_with (first | (go_at_call 63; refine (HB'.out _ (below_alloc (Below.refl _ _) _)).mono ?_; rw [HBV.out]; rintro e w1 ⟨rfl, hb1⟩; obtain ⟨hcell, hfroz⟩ := bcell hb1; have HB1 := Aside0.mk hb1; have hz1 : w.heap.size < w1.heap.size := (by have h_ := hb1.size; simp only [World.size_alloc] at h_; omega); clear hb1) | (go_at_call 64; refine (HC'.out _ ((below_alloc (Below.refl _ _) _).trans (HB1.out.mono (by simp)))).mono ?_; rw [HCV.out]; rintro e w2 ⟨rfl, hb2⟩; obtain ⟨hcell2, hfroz2⟩ := bcell hb2; have HB2 := Aside0.mk hb2; have hz2 : w.heap.size < w2.heap.size := Nat.lt_of_lt_of_le hz1 hb2.size; clear hb2))
        go_ret
        exact ⟨ret_bool (by rw [HE2.out, HK.out]; exact HK0.out), ((below_alloc (Below.refl _ _) _).trans (HB1.out.mono (by simp))).trans (HB2.out.mono (by omega))⟩
      by_cases h8 : k = 8
      · subst h8
        clear n1 n2 n3 n4 n5 hk15 h6 h7 h9
        have HK := Aside0.mk (show kindT 8 n nm ls ar.length = (decide (ar.length = ls.length) && risingN (bl ls)) from by unfold kindT; simp)
        by_cases hl : ar.length = ls.length
        · have hl' : ((ar.length : Int) == (ls.length : Int)) = true := beq_iff_eq.2 (by omega)
          have HL := Aside0.mk hl
          clear hl
          go_enter Try.func26, Try.ntmps26
          go_wp2_with (first | (go_at_call 63; refine (HB'.out _ (below_alloc (Below.refl _ _) _)).mono ?_; rw [HBV.out]; rintro e w1 ⟨rfl, hb1⟩; obtain ⟨hcell, hfroz⟩ := bcell hb1; have HB1 := Aside0.mk hb1; have hz1 : w.heap.size < w1.heap.size := (by have h_ := hb1.size; simp only [World.size_alloc] at h_; omega); clear hb1) | (go_at_call 64; refine (HC'.out _ ((below_alloc (Below.refl _ _) _).trans (HB1.out.mono (by simp)))).mono ?_; rw [HCV.out]; rintro e w2 ⟨rfl, hb2⟩; obtain ⟨hcell2, hfroz2⟩ := bcell hb2; have HB2 := Aside0.mk hb2; have hz2 : w.heap.size < w2.heap.size := Nat.lt_of_lt_of_le hz1 hb2.size; clear hb2) | (go_at_call 67; refine (rising_calls _ _ _ _ (Kd.C_below HG3.out ((((below_alloc (Below.refl _ _) _).trans (HB1.out.mono (by simp))).trans (HB2.out.mono (by omega)))))).mono ?_; rintro e w3 ⟨rfl, hb3⟩))
          go_ret
          exact ⟨ret_bool (by rw [HE2.out, HK.out, HL.out]; simp), (((below_alloc (Below.refl _ _) _).trans (HB1.out.mono (by simp))).trans (HB2.out.mono (by omega))).trans (hb3.mono (by omega))⟩
        · have hl' : ((ar.length : Int) == (ls.length : Int)) = false := beq_eq_false_iff_ne.2 (by omega)
          have HL := Aside0.mk (decide_eq_false hl)
          clear hl
          go_enter Try.func26, Try.ntmps26
          go_wp2_with (first | (go_at_call 63; refine (HB'.out _ (below_alloc (Below.refl _ _) _)).mono ?_; rw [HBV.out]; rintro e w1 ⟨rfl, hb1⟩; obtain ⟨hcell, hfroz⟩ := bcell hb1; have HB1 := Aside0.mk hb1; have hz1 : w.heap.size < w1.heap.size := (by have h_ := hb1.size; simp only [World.size_alloc] at h_; omega); clear hb1) | (go_at_call 64; refine (HC'.out _ ((below_alloc (Below.refl _ _) _).trans (HB1.out.mono (by simp)))).mono ?_; rw [HCV.out]; rintro e w2 ⟨rfl, hb2⟩; obtain ⟨hcell2, hfroz2⟩ := bcell hb2; have HB2 := Aside0.mk hb2; have hz2 : w.heap.size < w2.heap.size := Nat.lt_of_lt_of_le hz1 hb2.size; clear hb2))
          go_ret
          exact ⟨ret_bool (by rw [HE2.out, HK.out, HL.out]; rfl), ((below_alloc (Below.refl _ _) _).trans (HB1.out.mono (by simp))).trans (HB2.out.mono (by omega))⟩
      have HK := Aside0.mk (show kindT k n nm ls ar.length = false from by unfold kindT; rw [if_neg hk15, if_neg h6, if_neg h9, if_neg h7, if_neg h8])
      have n6 : (k == 6) = false := beq_eq_false_iff_ne.2 (by omega)
      have n7 : (k == 7) = false := beq_eq_false_iff_ne.2 (by omega)
      have n8 : (k == 8) = false := beq_eq_false_iff_ne.2 (by omega)
      have n9 : (k == 9) = false := beq_eq_false_iff_ne.2 (by omega)
      clear h6 h7 h8 h9 hk15
      go_enter Try.func26, Try.ntmps26
      go_wp2_with (first | (go_at_call 63; refine (HB'.out _ (below_alloc (Below.refl _ _) _)).mono ?_; rw [HBV.out]; rintro e w1 ⟨rfl, hb1⟩; obtain ⟨hcell, hfroz⟩ := bcell hb1; have HB1 := Aside0.mk hb1; have hz1 : w.heap.size < w1.heap.size := (by have h_ := hb1.size; simp only [World.size_alloc] at h_; omega); clear hb1) | (go_at_call 64; refine (HC'.out _ ((below_alloc (Below.refl _ _) _).trans (HB1.out.mono (by simp)))).mono ?_; rw [HCV.out]; rintro e w2 ⟨rfl, hb2⟩; obtain ⟨hcell2, hfroz2⟩ := bcell hb2; have HB2 := Aside0.mk hb2; have hz2 : w.heap.size < w2.heap.size := Nat.lt_of_lt_of_le hz1 hb2.size; clear hb2))
      go_ret
      exact ⟨ret_bool (by rw [HE2.out, HK.out]), ((below_alloc (Below.refl _ _) _).trans (HB1.out.mono (by simp))).trans (HB2.out.mono (by omega))⟩
end Go.Proofs.Ytkeeknlfommieaa.PF
namespace Go.Proofs.Ytkeeknlfommieaa.PF
open Go.RowKit Go.Shelf Go.Proofs.YtkeeknlfommieaaW.PrintWords Go.Proofs.YtkeeknlfommieaaW.PrintLast Go.Proofs.YtkeeknlfommieaaW.PrintMore
attribute [local go_sem] Oper.semAt_some

theorem el26F {W : World} {ok : Nat → Prop} {A : Option Addr} {xs : List S26} (h : Kd.F k26 W ok A xs.length xs) (i : Nat) (hi : i < xs.length) :
    ∃ ad A3 c3 A4 c4, A = some ad ∧ W.cell? (ad.add (i * 5)) = some (.int .i64 xs[i].f0) ∧ W.cell? ⟨(ad.add (i * 5)).block, (ad.add (i * 5)).off + 1, none⟩ = some (.int .i64 xs[i].f1) ∧ W.cell? ⟨(ad.add (i * 5)).block, (ad.add (i * 5)).off + 2, none⟩ = some (.string xs[i].f2) ∧ W.cell? ⟨(ad.add (i * 5)).block, (ad.add (i * 5)).off + 3, none⟩ = some (.slice A3 xs[i].f3.length c3) ∧ W.cell? ⟨(ad.add (i * 5)).block, (ad.add (i * 5)).off + 4, none⟩ = some (.slice A4 xs[i].f4.length c4)
      ∧ xs[i].f3.length ≤ c3 ∧ Kd.F Kd.string W ok A3 xs[i].f3.length xs[i].f3 ∧ xs[i].f4.length ≤ c4 ∧ Kd.F k26 W ok A4 xs[i].f4.length xs[i].f4 := by
  obtain ⟨ad, cs, e, hcl, hK, hc, _⟩ := Kd.F_get h z26 (i : Int) (by omega) (by omega)
  rw [show xs.getD (i : Int).toNat z26 = xs[i] from rd_getElem xs i hi] at hK
  obtain ⟨A3, c3, A4, c4, rfl, l3, g3, l4, g4⟩ := k26_openF hK
  have hc' : ∀ j u, ([.int .i64 xs[i].f0, .int .i64 xs[i].f1, .string xs[i].f2, .slice A3 xs[i].f3.length c3, .slice A4 xs[i].f4.length c4] : List Value)[j]? = some u → W.cell? (ad.add (i * 5 + j)) = some u := fun j u hu => hc j u hu
  exact ⟨ad, A3, c3, A4, c4, e, hc' 0 _ rfl, by rw [← add_field _ _ 1 (by omega)]; exact hc' 1 _ rfl, by rw [← add_field _ _ 2 (by omega)]; exact hc' 2 _ rfl, by rw [← add_field _ _ 3 (by omega)]; exact hc' 3 _ rfl, by rw [← add_field _ _ 4 (by omega)]; exact hc' 4 _ rfl, l3, g3, l4, g4⟩

/-- A type as it is handed to a loop's body: what it reads as, and where its lists lie. -/
structure NV where
  x : S26
  A3 : Option Addr
  c3 : Nat
  A4 : Option Addr
  c4 : Nat
def NV.enc (v : NV) : Value := .agg #[.int .i64 v.x.f0, .int .i64 v.x.f1, .string v.x.f2, .slice v.A3 v.x.f3.length v.c3, .slice v.A4 v.x.f4.length v.c4]
mutual
def preT : S26 → List S26
  | ⟨k, n, nm, ls, ar⟩ => ⟨k, n, nm, ls, ar⟩ :: preL ar
def preL : List S26 → List S26
  | [] => []
  | x :: l => preT x ++ preL l
end
theorem preL_app (l m : List S26) : preL (l ++ m) = preL l ++ preL m := by
  induction l with
  | nil => rfl
  | cons x l ih => rw [List.cons_append, preL, preL, ih, List.append_assoc]
theorem preL_take (l : List S26) (k : Nat) (h : k < l.length) : preL (l.take (k + 1)) = preL (l.take k) ++ preT l[k] := by
  rw [List.take_succ_eq_append_getElem h, preL_app]
  simp [preL]

/-- What a round keeps: all that lay below n₀, and each box of a type. -/
structure KT (n₀ : Nat) (W W' : World) : Prop where
  low : Below n₀ W W'
  typ : ∀ (b : Nat) (c : Array Value), W.heap[b]? = some (Obj.cells c 26 (0, 0)) → W'.heap[b]? = some (Obj.cells c 26 (0, 0))
theorem KT.refl (n₀ : Nat) (W : World) : KT n₀ W W := ⟨Below.refl _ _, fun _ _ h => h⟩
theorem KT.trans {n₀ : Nat} {A B C : World} (h : KT n₀ A B) (k : KT n₀ B C) : KT n₀ A C := ⟨h.low.trans k.low, fun b c hb => k.typ b c (h.typ b c hb)⟩
theorem KT.alloc {n₀ : Nat} {A B : World} (h : KT n₀ A B) (hn : n₀ ≤ B.heap.size) (o : Obj) : KT n₀ A (B.alloc o) := ⟨h.low.alloc hn o, fun b c hb => blk_alloc (h.typ b c hb) o⟩
theorem kt_b {n₀ : Nat} {w : World} (hn : n₀ ≤ w.heap.size) (W : World) (l : Nat) (o o' : Obj) (hl : w.heap.size ≤ l) (h : W.heap[l]? = some o) (hc : o.isCells = false) (hw : o.isWalk = false) : KT n₀ W (W.putObj l o') :=
  ⟨belowK_b hn W l o o' hl h hc hw, fun b c hb => by
    have hne : l ≠ b := by rintro rfl; rw [h] at hb; cases hb; simp [Obj.isCells] at hc
    simp only [World.putObj]
    rw [Array.getElem?_setIfInBounds_ne hne]
    exact hb⟩

theorem wide_room (k : Nat) : Fence.wide.room k := fun d h => by cases h
/-- At the wide fence the figures are all one. -/
theorem yield_any {m : Nat} (m' : Nat) {P : Program} {l : Nat} {args : Array Value} {W : World} {R : Ending → World → Prop} (h : YieldAt Fence.wide m P l args W R) : YieldAt Fence.wide m' P l args W R := by
  obtain ⟨fn, tmps, assign, body, hy, hR⟩ := h
  exact ⟨fn, tmps, assign, body, hy, hR.1, fun c cs _ => hR.2 c cs (wide_room _)⟩

set_option maxRecDepth 100000 in
set_option maxHeartbeats 2000000 in
theorem walk_in (l n₀ N : Nat) (J Jx : List NV → World → Prop) (hJa : ∀ pre W o, J pre W → J pre (World.alloc W o))
    (hY : ∀ m pre x W, J pre W → pre.length < N → YieldAt Fence.wide m Try.prog l #[NV.enc x] W fun e W' =>
      (e = .returned (.bool true) ∧ J (pre ++ [x]) W' ∧ KT n₀ W W') ∨ (e = .returned (.bool false) ∧ Jx (pre ++ [x]) W')) (t : S26) :
    ∀ (n : Nat) (A3 : Option Addr) (c3 : Nat) (A4 : Option Addr) (c4 : Nat) (pre : List NV) (W : World), n₀ ≤ W.heap.size → Kd.F k26 W (fun k => k < n₀) A4 t.f4.length t.f4 → J pre W → pre.length + (preT t).length ≤ N →
      CallsIn Fence.wide n Try.prog 101 #[.agg #[.int .i64 t.f0, .int .i64 t.f1, .string t.f2, .slice A3 t.f3.length c3, .slice A4 t.f4.length c4], .func (.yield l) #[] #[]] W fun e W' =>
        (e = .returned (.bool true) ∧ (∃ ys : List NV, ys.map NV.x = preT t ∧ J (pre ++ ys) W') ∧ KT n₀ W W') ∨ (e = .returned (.bool false) ∧ ∃ q : List NV, q.map NV.x <+: preT t ∧ Jx (pre ++ q) W') := by
  induction t using S26.ind with
  | h k nn nm ls ar ih =>
  intro n A3 c3 A4 c4 pre W hn hF hJ hN
  dsimp only at hF ⊢
  have hNl : pre.length < N := by rw [preT] at hN; simp at hN; omega
  have hJ1 := hJa _ _ (Obj.cells #[.int .i64 k, .int .i64 nn, .string nm, .slice A3 ls.length c3, .slice A4 ar.length c4] 26) hJ
  obtain ⟨fn, tmps, assign, body, hy, hR⟩ := hY (n - 1) pre ⟨⟨k, nn, nm, ls, ar⟩, A3, c3, A4, c4⟩ _ hJ1 hNl
  dsimp only [NV.enc] at hy
  refine callsIn_of_wp Try.func101 rfl trivial ?_ rfl
  simp only [Try.ntmps101, List.size_toArray, List.length_cons, List.length_nil, Nat.reduceAdd, Nat.reduceSub, Array.replicate_succ, Array.replicate_zero, List.push_toArray, List.append_toArray, List.nil_append, List.cons_append]
  have HJA := Aside0.mk hJa
  have HY := Aside0.mk hY
  have HIH := Aside0.mk ih
  have HN := Aside0.mk hN
  clear hJa hY ih hJ hJ1 hN hNl
  gi_wp2
  refine ⟨fun h => (by cases h), ?_⟩
  refine hR.mono ?_
  clear hR
  rintro e W1 (⟨rfl, hJ2, hk⟩ | ⟨rfl, hx⟩)
  · have HB := Aside0.mk (hk.typ W.heap.size _ (blk_new W _))
    have HK := Aside0.mk (((KT.refl n₀ W).alloc hn (Obj.cells #[.int .i64 k, .int .i64 nn, .string nm, .slice A3 ls.length c3, .slice A4 ar.length c4] 26)).trans hk)
    have HJ := Aside0.mk hJ2
    have hc4 : W1.cell? ⟨W.heap.size, 4, none⟩ = some (.slice A4 ar.length c4) := blk_cell HB.out 4
    have HF := Aside0.mk hF
    have hlen := Kd.F_max hF
    have hn1 : n₀ ≤ W1.heap.size := Nat.le_trans hn HK.out.low.size
    clear hk hJ2 hF
    gi_wp2
    gi_loopw [14] (fun i wr => ∃ (kk : Nat) (ys : List NV), kk ≤ ar.length ∧ i = .int .i64 kk ∧ Aside0 (ys.map NV.x = (⟨k, nn, nm, ls, ar⟩ : S26) :: preL (ar.take kk)) ∧ Aside0 (J (pre ++ ys) wr) ∧ Aside0 (KT n₀ W wr)) (fun i _ => ar.length - (intOf i).toNat)
    case atStart => exact ⟨0, [⟨⟨k, nn, nm, ls, ar⟩, A3, c3, A4, c4⟩], Nat.zero_le _, rfl, ⟨by simp [preL]⟩, HJ, HK⟩
    case round =>
      obtain ⟨kk, ys, hkk, rfl, HM, HJ2, HK2⟩ := hrel
      clear hc4
      by_cases hlt : kk < ar.length
      · have hltZ : ((kk : Int) < (ar.length : Int)) := by omega
        obtain ⟨ad, B3, d3, B4, d4, e, h0, h1, h2, h3, h4, l3, g3, l4, g4⟩ := el26F (Kd.F_step HF.out (fun b hb _ => HK2.out.low.block b hb)) kk hlt
        cases e
        have hnr : n₀ ≤ wr.heap.size := Nat.le_trans hn HK2.out.low.size
        have HC := fun m => HIH.out ar[kk] (List.getElem_mem hlt) m B3 d3 B4 d4 (pre ++ ys) (wr.alloc (.cells #[.int .i64 ar[kk].f0, .int .i64 ar[kk].f1, .string ar[kk].f2, .slice B3 ar[kk].f3.length d3, .slice B4 ar[kk].f4.length d4] 26)) (Nat.le_trans hnr (by simp)) (Kd.F_alloc g4 _) (HJA.out _ _ _ HJ2.out) (by
          have hm : (pre ++ ys).length = pre.length + (1 + (preL (ar.take kk)).length) := by have e_ := congrArg List.length HM.out; simp only [List.length_map, List.length_cons] at e_; rw [List.length_append]; omega
          have ht : (preL ar).length = (preL (ar.take kk)).length + (preT ar[kk]).length + (preL (ar.drop (kk + 1))).length := by
            conv => lhs; rw [← List.take_append_drop (kk + 1) ar, preL_app, preL_take _ _ hlt]
            simp [Nat.add_assoc]
          have := HN.out
          rw [preT, List.length_cons] at this
          omega)
        have HC' := Aside0.mk HC
        clear HC g3 g4 l3 l4
        gi_wp2_with ((try refine ⟨trivial, fun h => (by cases h), ?_⟩); gi_at_call 101; refine (HC'.out _).mono ?_; rintro e W2 (⟨rfl, ⟨zs, hz, hJz⟩, hk⟩ | ⟨rfl, q, hq, hx⟩))
        · go_roundw
          case rel => exact ⟨kk + 1, ys ++ zs, by omega, by go_num, ⟨by rw [List.map_append, HM.out, hz, preL_take _ _ hlt]; rfl⟩, ⟨by rw [← List.append_assoc]; exact hJz⟩, ⟨(HK2.out.alloc hnr _).trans hk⟩⟩
          case measure => simp [intOf]; omega
        · go_ret
          refine .inr ⟨rfl, ys ++ q, ?_, by rw [← List.append_assoc]; exact hx⟩
          rw [List.map_append, HM.out, preT]
          have ht : preL ar = preL (ar.take kk) ++ (preT ar[kk] ++ preL (ar.drop (kk + 1))) := by
            conv => lhs; rw [← List.take_append_drop (kk + 1) ar, preL_app, preL_take _ _ hlt]
            simp
          rw [ht, List.cons_append]
          obtain ⟨r, hr⟩ := hq
          exact ⟨r ++ preL (ar.drop (kk + 1)), by rw [← hr]; simp⟩
      · have hltz : ¬ (kk : Int) < (ar.length : Int) := by omega
        have HE := Aside0.mk (show kk = ar.length from by omega)
        gi_wp2
        go_ret
        refine .inl ⟨rfl, ⟨ys, ?_, HJ2.out⟩, HK2.out⟩
        rw [HM.out, HE.out, List.take_length, preT]
  · gi_wp2
    go_ret
    exact .inr ⟨rfl, [⟨⟨k, nn, nm, ls, ar⟩, A3, c3, A4, c4⟩], ⟨preL ar, by simp [preT]⟩, hx⟩

set_option maxRecDepth 100000 in
set_option maxHeartbeats 2000000 in
theorem nodes1_in (l n₀ N : Nat) (J Jx : List NV → World → Prop) (hJa : ∀ pre W o, J pre W → J pre (World.alloc W o))
    (hY : ∀ m pre x W, J pre W → pre.length < N → YieldAt Fence.wide m Try.prog l #[NV.enc x] W fun e W' =>
      (e = .returned (.bool true) ∧ J (pre ++ [x]) W' ∧ KT n₀ W W') ∨ (e = .returned (.bool false) ∧ Jx (pre ++ [x]) W')) (t : S26) (n : Nat) (Bt : Nat) (A3 : Option Addr) (c3 : Nat) (A4 : Option Addr) (c4 : Nat) (W : World)
    (hn : n₀ ≤ W.heap.size) (hB : W.heap[Bt]? = some (.cells #[.int .i64 t.f0, .int .i64 t.f1, .string t.f2, .slice A3 t.f3.length c3, .slice A4 t.f4.length c4] 26 (0, 0))) (hF : Kd.F k26 W (fun k => k < n₀) A4 t.f4.length t.f4) (h0 : J [] W) (hN : (preT t).length ≤ N) :
    CallsIn Fence.wide n Try.prog 100 #[.func (.yield l) #[] #[], .pointer (some ⟨Bt, 0, none⟩)] W fun e W' => (∃ v, e = .returned v) ∧
      ((∃ ys : List NV, ys.map NV.x = preT t ∧ J ys W') ∨ (∃ pre : List NV, pre.map NV.x <+: preT t ∧ Jx pre W')) := by
  have hw := fun m => walk_in l n₀ N J Jx hJa hY t m A3 c3 A4 c4 [] W hn hF h0 (by simpa using hN)
  have HW := Aside0.mk hw
  have hc0 := blk_cell hB 0
  have hc1 := blk_cell hB 1
  have hc2 := blk_cell hB 2
  have hc3 := blk_cell hB 3
  have hc4 := blk_cell hB 4
  simp at hc0 hc1 hc2 hc3 hc4
  clear hw hJa hY hB hF h0 hN
  refine callsIn_of_wp Try.func100 rfl trivial ?_ rfl
  simp only [Try.ntmps100, List.size_toArray, List.length_cons, List.length_nil, Nat.reduceAdd, Nat.reduceSub, Array.replicate_succ, Array.replicate_zero, List.push_toArray, List.append_toArray, List.nil_append, List.cons_append]
  gi_wp2_with ((try refine ⟨trivial, fun h => (by cases h), ?_⟩); gi_at_call 101; refine (HW.out _).mono ?_; rintro e W1 (⟨rfl, ⟨ys, hy, hJ⟩, _⟩ | ⟨rfl, q, hq, hx⟩))
  · go_end0
    exact ⟨⟨_, rfl⟩, .inl ⟨ys, hy, hJ⟩⟩
  · go_end0
    exact ⟨⟨_, rfl⟩, .inr ⟨q, hq, hx⟩⟩

/-- ty.nodes: the type is boxed; the function value captures the box. -/
theorem nodes_in (n : Nat) (v : Array Value) (hv : ∃ a b c d e, v = #[.int .i64 a, .int .i64 b, .string c, d, e]) (w : World) : CallsIn Fence.wide n Try.prog 68 #[.agg v] w fun e w' => e = .returned (.func (.func 100) #[] #[.pointer (some ⟨w.heap.size, 0, none⟩)]) ∧ w' = w.alloc (.cells v 26) := by
  obtain ⟨a, b, c, d, e, rfl⟩ := hv
  refine callsIn_of_wp Try.func68 rfl trivial ?_ rfl
  simp only [Try.ntmps68, List.size_toArray, List.length_cons, List.length_nil, Nat.reduceAdd, Nat.reduceSub, Array.replicate_succ, Array.replicate_zero, List.push_toArray, List.append_toArray, List.nil_append, List.cons_append]
  gi_wp2
  go_ret
  exact ⟨rfl, rfl⟩
theorem nodes_stops (n : Nat) (t : S26) (n₀ Bt : Nat) (A3 : Option Addr) (c3 : Nat) (A4 : Option Addr) (c4 : Nat) (w : World) (hn : n₀ ≤ w.heap.size) (hB : w.heap[Bt]? = some (.cells #[.int .i64 t.f0, .int .i64 t.f1, .string t.f2, .slice A3 t.f3.length c3, .slice A4 t.f4.length c4] 26 (0, 0))) (hF : Kd.F k26 w (fun k => k < n₀) A4 t.f4.length t.f4) :
    SeqStopsK Fence.wide n Try.prog 100 #[.pointer (some ⟨Bt, 0, none⟩)] (fun x : NV => #[NV.enc x]) (KT n₀) (fun ys => ys.map NV.x = preT t) (fun pre => pre.map NV.x <+: preT t) (preT t).length w := fun l J Jx W hW hJ _ hY h0 => by
  exact nodes1_in l n₀ (preT t).length J Jx (fun pre W' o hj => hJ _ _ _ none hj (World.grownBy_alloc W' o none) (fun r e => by cases e)) (fun m pre x W' hj hl => yield_any m (hY pre x W' hj hl)) t n Bt A3 c3 A4 c4 W (Nat.le_trans hn hW.size) (blk_below hB hW) (Kd.F_below hF hW) h0 (Nat.le_refl _)
end Go.Proofs.Ytkeeknlfommieaa.PF
namespace Go.Proofs.Ytkeeknlfommieaa.PF
open Go.RowKit Go.Shelf Go.Sort Go.Proofs.YtkeeknlfommieaaW.PrintWords Go.Proofs.YtkeeknlfommieaaW.PrintLast Go.Proofs.YtkeeknlfommieaaW.PrintMore

/-- A field: a label, and a type as its cells hold it. -/
structure FE where
  l : ByteArray
  v : NV
instance : Inhabited FE := ⟨⟨ByteArray.empty, ⟨z26, none, 0, none, 0⟩⟩⟩
def FE.enc (e : FE) : List Value := [.string e.l, .int .i64 e.v.x.f0, .int .i64 e.v.x.f1, .string e.v.x.f2, .slice e.v.A3 e.v.x.f3.length e.v.c3, .slice e.v.A4 e.v.x.f4.length e.v.c4]
def FE.cf (a b : FE) : Int := Lib.compareBytes a.l.data.toList b.l.data.toList
theorem FE.hk (e : FE) : e.enc.length = 6 := rfl
theorem FE.h1 (e : FE) : ∀ v ∈ e.enc, v.oneCell' = true := by
  intro v hv
  simp only [FE.enc, List.mem_cons, List.not_mem_nil, or_false] at hv
  rcases hv with rfl | rfl | rfl | rfl | rfl | rfl <;> rfl

theorem compare_calls (a b : FE) (W : World) : Calls Try.prog 75 #[.agg a.enc.toArray, .agg b.enc.toArray] W fun e w' => e = .returned (.int .i64 (FE.cf a b)) ∧ ∃ q os', w' = grow (W.drewN q) os' := by
  obtain ⟨l, ⟨x, A3, c3, A4, c4⟩⟩ := a
  obtain ⟨m, ⟨y, B3, d3, B4, d4⟩⟩ := b
  dsimp only [FE.enc, FE.cf, List.toArray]
  go_enter Try.func75, Try.ntmps75
  go_wp2_with (go_at_call 105; refine (Try.strings_Compare _ _ _).mono ?_; rintro e w' ⟨rfl, rfl⟩)
  go_ret
  exact ⟨rfl, 0, _, by rw [World.drewN_zero, alloc_eq_grow, alloc_eq_grow, grow_grow]⟩
theorem compare_lays (blk off size : Nat) (w : World) : CmpLays Try.prog 75 #[] FE.enc 6 FE.cf blk off size w := by
  intro m os dk hs x y
  exact compare_calls x y _
theorem insertion_calls (blk off cap a b : Nat) (d : Array FE) (w : World) (hH : HoldsK FE.enc 6 w blk off d) (hblk : blk < w.heap.size) (hab : a ≤ b) (hb : b ≤ d.size) (hsz : d.size < 4611686018427387904) :
    Calls Try.prog 127 #[.slice (some ⟨blk, off, none⟩) d.size cap, .int .i64 a, .int .i64 b, .func (.func 75) #[] #[]] w fun e w' =>
      e = .returned (.tuple #[]) ∧ ∃ n os, w' = sortWorldK FE.enc 6 w blk off n (Sort.insertionSort (ltOf FE.cf) d a b) os :=
  AnyQ.insertionSortCmpFunc Try.lays127 6 Try.isAgg89 Try.sizeOf89 FE.enc FE.hk FE.h1 FE.cf 75 #[] blk off cap a b d w (enters_of Try.func75 (by kernel_rfl) rfl) (compare_lays _ _ _ _) hH hblk hab hb hsz
end Go.Proofs.Ytkeeknlfommieaa.PF
namespace Go.Proofs.Ytkeeknlfommieaa.PF
open Go.RowKit Go.Shelf Go.Sort Go.Proofs.YtkeeknlfommieaaW.PrintWords Go.Proofs.YtkeeknlfommieaaW.PrintLast Go.Proofs.YtkeeknlfommieaaW.PrintMore

def Sorted (g : Nat) (d : Array FE) (W : World) (e : Ending) (w' : World) : Prop :=
  e = .returned (.tuple #[]) ∧ ∃ d' n os, PermIn 0 d.size d d' ∧ SortedIn (ltOf FE.cf) 0 d.size d' ∧ w' = sortWorldK FE.enc 6 W g 0 n d' os
def SortOK (hi : Nat) : Prop := ∀ (g cap : Nat) (d : Array FE) (W : World), HoldsK FE.enc 6 W g 0 d → g < W.heap.size → 0 < d.size → d.size ≤ hi →
  Calls Try.prog 74 #[.slice (some ⟨g, 0, none⟩) d.size cap, .func (.func 75) #[] #[]] W (Sorted g d W)

theorem cmpL_lt : ∀ (a b : List UInt8), Lib.compareBytes a b < 0 ↔ a < b := by
  intro a
  induction a with
  | nil =>
    intro b
    cases b with
    | nil => simp [Lib.compareBytes]
    | cons y b => simp [Lib.compareBytes]
  | cons x a ih =>
    intro b
    cases b with
    | nil => simp [Lib.compareBytes]
    | cons y b =>
      rw [Lib.compareBytes, List.cons_lt_cons_iff]
      by_cases h1 : x < y
      · simp [h1]
      · by_cases h2 : y < x
        · have h3 : x ≠ y := by rintro rfl; exact h1 h2
          simp [h1, h2, h3]
        · have h3 : x = y := UInt8.le_antisymm (UInt8.not_lt.1 h2) (UInt8.not_lt.1 h1)
          simp [h1, h2, h3, ih]
theorem ltcf (a b : FE) : ltOf FE.cf a b = decide (a.l.data.toList < b.l.data.toList) := by
  unfold ltOf FE.cf
  rw [Bool.eq_iff_iff, decide_eq_true_iff, decide_eq_true_iff]
  exact cmpL_lt _ _
theorem swo : SWO (ltOf FE.cf) := by
  constructor
  · intro x; rw [ltcf]; simp [List.lt_irrefl]
  · intro x y z; rw [ltcf, ltcf, ltcf]; simp only [decide_eq_true_iff]; exact List.lt_trans
  · intro x y z; rw [ltcf, ltcf, ltcf]; simp only [decide_eq_false_iff_not, List.not_lt]; exact fun h1 h2 => List.le_trans h2 h1

set_option maxRecDepth 100000 in
set_option maxHeartbeats 2000000 in
theorem stable_small : ∀ (g cap : Nat) (d : Array FE) (W : World), HoldsK FE.enc 6 W g 0 d → g < W.heap.size → d.size < 20 →
    Calls Try.prog 104 #[.slice (some ⟨g, 0, none⟩) d.size cap, .int .i64 d.size, .func (.func 75) #[] #[]] W (Sorted g d W) := by
  intro g cap d W hH hg hd
  have hc := insertion_calls g 0 cap 0 d.size d W hH hg (Nat.zero_le _) (Nat.le_refl _) (by omega)
  have hs := insertionSort_holds (lt := ltOf FE.cf) swo d 0 d.size (Nat.zero_le _) (Nat.le_refl _)
  have HC := Aside0.mk hc
  have HS := Aside0.mk hs
  clear hc hs hH
  go_enter Try.func104, Try.ntmps104
  go_wp2
  refine wp_loop_rounds 1 ?_
  rw [rounds_succ]
  go_wp2_with (go_at_call 127; refine HC.out.mono ?_; rintro e w1 ⟨rfl, n, os, rfl⟩)
  refine wp_loop_rounds 1 ?_
  rw [rounds_succ]
  go_wp2
  go_end0
  exact ⟨rfl, _, n, os, HS.out.1, HS.out.2, rfl⟩
theorem sort_of {n : Nat} (h : ∀ (g cap : Nat) (d : Array FE) (W : World), HoldsK FE.enc 6 W g 0 d → g < W.heap.size → 0 < d.size → d.size ≤ n →
    Calls Try.prog 104 #[.slice (some ⟨g, 0, none⟩) d.size cap, .int .i64 d.size, .func (.func 75) #[] #[]] W (Sorted g d W)) : SortOK n := by
  intro g cap d W hH hg h0 hd
  have HC := Aside0.mk (h g cap d W hH hg h0 hd)
  clear h hH hd h0 hg
  go_enter Try.func74, Try.ntmps74
  go_wp2_with (go_at_call 104; refine HC.out.mono ?_; rintro e w1 ⟨rfl, h2⟩)
  go_end0
  exact ⟨rfl, h2⟩
theorem sort_small : SortOK 19 := sort_of fun g cap d W hH hg _ hd => stable_small g cap d W hH hg (by omega)

theorem insertion_none (cap : Nat) (W : World) : Calls Try.prog 127 #[.slice none 0 cap, .int .i64 0, .int .i64 0, .func (.func 75) #[] #[]] W fun e w' => e = .returned (.tuple #[]) ∧ w' = W := by
  go_enter Try.func127, Try.ntmps127
  go_wp2
  refine wp_loop_rounds 1 ?_
  rw [rounds_succ]
  go_wp2
  go_end0
  exact ⟨rfl, rfl⟩
theorem stable_none (cap : Nat) (W : World) : Calls Try.prog 104 #[.slice none 0 cap, .int .i64 0, .func (.func 75) #[] #[]] W fun e w' => e = .returned (.tuple #[]) ∧ w' = W := by
  go_enter Try.func104, Try.ntmps104
  go_wp2
  refine wp_loop_rounds 1 ?_
  rw [rounds_succ]
  go_wp2_with (go_at_call 127; refine (insertion_none _ _).mono ?_; rintro e w1 ⟨rfl, rfl⟩)
  refine wp_loop_rounds 1 ?_
  rw [rounds_succ]
  go_wp2
  go_end0
  exact ⟨rfl, rfl⟩
theorem sort_none (cap : Nat) (W : World) : Calls Try.prog 74 #[.slice none 0 cap, .func (.func 75) #[] #[]] W fun e w' => e = .returned (.tuple #[]) ∧ w' = W := by
  go_enter Try.func74, Try.ntmps74
  go_wp2_with (go_at_call 104; refine (stable_none _ _).mono ?_; rintro e w1 ⟨rfl, rfl⟩)
  go_end0
  exact ⟨rfl, rfl⟩
end Go.Proofs.Ytkeeknlfommieaa.PF
namespace Go.Proofs.Ytkeeknlfommieaa.PF
noncomputable def eqB {α : Type} (a b : α) : Bool := @decide (a = b) (Classical.propDecidable _)
theorem eqB_iff {α : Type} {a b : α} : eqB a b = true ↔ a = b := by unfold eqB; exact @decide_eq_true_iff _ (Classical.propDecidable _)
theorem eqB_self {α : Type} (a : α) : eqB a a = true := eqB_iff.2 rfl
theorem eqB_false {α : Type} {a b : α} (h : a ≠ b) : eqB a b = false := by rw [← Bool.not_eq_true]; exact fun e => h (eqB_iff.1 e)
theorem eqB_comm {α : Type} (a b : α) : eqB a b = eqB b a := by rw [Bool.eq_iff_iff, eqB_iff, eqB_iff]; exact eq_comm
theorem eqB_congr {α β : Type} {a b : α} {c d : β} (h : a = b ↔ c = d) : eqB a b = eqB c d := by rw [Bool.eq_iff_iff, eqB_iff, eqB_iff]; exact h
theorem drop_head {α : Type} (l : List α) (i : Nat) (h : i < l.length) : l.drop i = l[i] :: l.drop (i + 1) := List.drop_eq_getElem_cons h
theorem bytes_ext {a b : ByteArray} (h : a.toList = b.toList) : a = b := by
  rw [ByteArray.toList_eq, ByteArray.toList_eq] at h
  cases a; cases b
  simp at h
  rw [h]
theorem bytes_iff {a b : ByteArray} : a.toList = b.toList ↔ a = b := ⟨bytes_ext, fun h => by rw [h]⟩
theorem s26_eta (t : S26) : t = ⟨t.f0, t.f1, t.f2, t.f3, t.f4⟩ := by cases t; rfl
theorem s26_iff (a b : S26) : a = b ↔ a.f0 = b.f0 ∧ a.f1 = b.f1 ∧ a.f2 = b.f2 ∧ a.f3 = b.f3 ∧ a.f4 = b.f4 := by
  cases a; cases b
  simp
end Go.Proofs.Ytkeeknlfommieaa.PF
