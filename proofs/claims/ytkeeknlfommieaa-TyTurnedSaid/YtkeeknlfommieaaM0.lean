/- Base words for the contracts written by hand: what a type's cells read as, and small steps. · slices.IndexFunc, slices.ContainsFunc over types, ty.Right's literal: contracts, for every function value that answers as a plain function. · Plain words on names: what a text is by its letters, which words are kept, lists that rise. · name.shape: what a text is by its letters, at every text: a range over a string. · name.Kind, name.Fine, name.Var, name.Rising: contracts at every text, every list. · Plain words on types: which are right. · ty.bare, ty.Right: contracts at every type. · Plain words: equality as a Bool; a cut and its head. · slices.Equal over texts, slices.EqualFunc over types, ty.Same: whether two types are one. · The reference's Same, of lists and of types. · The statements' own word Much: it returns, at every type. · The statements' own word few: it returns; true: at most sixty  -/
import Derived.Test.YtkeeknlfommieaaPFx0
import Derived.Shelf.Abstract
import GoSem.Op.String
import Derived.Laws.RangeAny
import Derived.WalkLawsBesides
import Derived.Test.YtkeeknlfommieaaPFx12
import Derived.Test.YtkeeknlfommieaaPFx52
import Derived.Test.YtkeeknlfommieaaPFx68
import Derived.StillTailTactics
namespace Go.Proofs.Ytkeeknlfommieaa.PF
open Go.RowKit Go.Proofs.YtkeeknlfommieaaW.PrintWords Go.Proofs.YtkeeknlfommieaaW.PrintLast Go.Proofs.YtkeeknlfommieaaW.PrintMore

/-- A type's value reads as x in w. -/
def RT (w : World) (v : Value) (x : S26) : Prop := ∃ A3 c3 A4 c4, v = .agg #[.int .i64 x.f0, .int .i64 x.f1, .string x.f2, .slice A3 x.f3.length c3, .slice A4 x.f4.length c4] ∧ x.f3.length ≤ c3 ∧ Kd.string.C w A3 x.f3.length x.f3 ∧ x.f4.length ≤ c4 ∧ k26.C w A4 x.f4.length x.f4
theorem RT.below {w w1 : World} {v : Value} {x : S26} (h : RT w v x) (hb : Below w.heap.size w w1) : RT w1 v x := by
  obtain ⟨A3, c3, A4, c4, e, l3, g3, l4, g4⟩ := h
  exact ⟨A3, c3, A4, c4, e, l3, Kd.C_below g3 hb, l4, Kd.C_below g4 hb⟩
theorem rd_getElem (xs : List S26) (i : Nat) (h : i < xs.length) : rd_T26 xs (i : Int) = xs[i] := by
  simp [rd_T26, List.getD_eq_getElem?_getD, List.getElem?_eq_getElem h]
/-- Element i of a row of types: its cells, and what they read as. -/
theorem el26 {w : World} {A : Option Addr} {xs : List S26} (h : k26.C w A xs.length xs) (i : Nat) (hi : i < xs.length) :
    ∃ ad A3 c3 A4 c4, A = some ad ∧ w.cell? (ad.add (i * 5)) = some (.int .i64 xs[i].f0) ∧ w.cell? ⟨(ad.add (i * 5)).block, (ad.add (i * 5)).off + 1, none⟩ = some (.int .i64 xs[i].f1) ∧ w.cell? ⟨(ad.add (i * 5)).block, (ad.add (i * 5)).off + 2, none⟩ = some (.string xs[i].f2) ∧ w.cell? ⟨(ad.add (i * 5)).block, (ad.add (i * 5)).off + 3, none⟩ = some (.slice A3 xs[i].f3.length c3) ∧ w.cell? ⟨(ad.add (i * 5)).block, (ad.add (i * 5)).off + 4, none⟩ = some (.slice A4 xs[i].f4.length c4)
      ∧ xs[i].f3.length ≤ c3 ∧ Kd.string.C w A3 xs[i].f3.length xs[i].f3 ∧ xs[i].f4.length ≤ c4 ∧ k26.C w A4 xs[i].f4.length xs[i].f4 := by
  obtain ⟨ad, A3, c3, A4, c4, e, h0, h1, h2, h3, h4, h5, h6, h7, h8⟩ := at_T26 h (i : Int) (by omega) (by omega)
  rw [rd_getElem xs i hi] at *
  simp only [Int.toNat_natCast] at *
  exact ⟨ad, A3, c3, A4, c4, e, h0, h1, h2, h3, h4, h5, h6, h7, h8⟩
theorem elS {w : World} {A : Option Addr} {l : List ByteArray} (h : Kd.string.C w A l.length l) (i : Nat) (hi : i < l.length) : ∃ ad, A = some ad ∧ w.cell? (ad.add i) = some (.string l[i]) := by
  obtain ⟨ad, c, e, _, hK, hc⟩ := Kd.C_get h ByteArray.empty (i : Int) (by omega) (by omega)
  obtain rfl : c = [.string (l.getD (i : Int).toNat ByteArray.empty)] := hK
  have h0 := hc 0 _ rfl
  refine ⟨ad, e, ?_⟩
  simpa [Kd.string, Kd.scalar, List.getD_eq_getElem?_getD, List.getElem?_eq_getElem hi] using h0
def bl (l : List ByteArray) : List (List UInt8) := l.map fun s => s.data.toList
theorem bl_length (l : List ByteArray) : (bl l).length = l.length := by simp [bl]
theorem bl_getD (l : List ByteArray) (i : Nat) (hi : i < l.length) : (bl l).getD i [] = (l[i]).data.toList := by simp [bl, List.getD_eq_getElem?_getD, List.getElem?_eq_getElem hi]
theorem ret_bool {a b : Bool} (h : a = b) : Ending.returned (.bool a) = .returned (.bool b) := by rw [h]
theorem ret_int {k : IntKind} {a b : Int} (h : a = b) : Ending.returned (.int k a) = .returned (.int k b) := by rw [h]
end Go.Proofs.Ytkeeknlfommieaa.PF
namespace Go.Proofs.Ytkeeknlfommieaa.PF
open Go.RowKit Go.Proofs.YtkeeknlfommieaaW.PrintWords Go.Proofs.YtkeeknlfommieaaW.PrintLast Go.Proofs.YtkeeknlfommieaaW.PrintMore

/-- The first place at which p holds, from i on; -1. -/
def idxT (p : S26 → Bool) : List S26 → Nat → Int
  | [], _ => -1
  | x :: l, i => if p x then i else idxT p l (i + 1)

theorem idxT_drop (p : S26 → Bool) (xs : List S26) (i : Nat) (h : i < xs.length) : idxT p (xs.drop i) i = if p xs[i] then (i : Int) else idxT p (xs.drop (i + 1)) (i + 1) := by
  rw [List.drop_eq_getElem_cons h, idxT]

/-- A function value that answers p of what reads as a type of xs. -/
def PredT (g : FuncId) (lb : Array Value) (p : S26 → Bool) (xs : List S26) (w : World) : Prop :=
  ∀ x ∈ xs, ∀ (W : World) (A3 : Option Addr) (c3 : Nat) (A4 : Option Addr) (c4 : Nat), Below w.heap.size w W → x.f3.length ≤ c3 → Kd.string.C W A3 x.f3.length x.f3 → x.f4.length ≤ c4 → k26.C W A4 x.f4.length x.f4 →
    Calls Try.prog g (#[.agg #[.int .i64 x.f0, .int .i64 x.f1, .string x.f2, .slice A3 x.f3.length c3, .slice A4 x.f4.length c4]] ++ lb) W fun e W' => e = .returned (.bool (p x)) ∧ Below W.heap.size W W'

set_option maxRecDepth 100000 in
set_option maxHeartbeats 400000 in
theorem indexFunc_calls (g : FuncId) (p : S26 → Bool) (xs : List S26) (A : Option Addr) (c : Nat) (w : World) (hr : k26.C w A xs.length xs) (eg : ∀ args w, (callFunc g args).run Try.prog w = .ok (.enter g args) w) (hp : PredT g #[] p xs w) :
    Calls Try.prog 97 #[.slice A xs.length c, .func (.func g) #[] #[]] w fun e w' => e = .returned (.int .i64 (idxT p xs 0)) ∧ Below w.heap.size w w' := by
  have HR := Aside0.mk hr
  have hlen := hr.2.1
  clear hr
  have HP := Aside0.mk hp
  clear hp
  go_enter Try.func97, Try.ntmps97
  go_wp2_with fail
  go_loopg [8] xs.length (fun gk i wr => ∃ k : Nat, gk + k = xs.length ∧ i = .int .i64 k ∧ Aside0 (idxT p xs 0 = idxT p (xs.drop k) k) ∧ Aside0 (Below w.heap.size w wr))
  case atStart => exact ⟨0, rfl, rfl, ⟨rfl⟩, ⟨Below.refl _ _⟩⟩
  case round =>
    obtain ⟨k, hk, rfl, HI, HB⟩ := hrel
    have HK := Aside0.mk hk
    clear hk
    by_cases hlt : k < xs.length
    · have hltZ : ((k : Int) < (xs.length : Int)) := by omega
      obtain ⟨ad, A3, c3, A4, c4, e, h0, h1, h2, h3, h4, l3, g3, l4, g4⟩ := el26 HR.out k hlt
      cases e
      replace h0 := pw_cell_below HB.out h0
      replace h1 := pw_cell_below HB.out h1
      replace h2 := pw_cell_below HB.out h2
      replace h3 := pw_cell_below HB.out h3
      replace h4 := pw_cell_below HB.out h4
      have HC := HP.out xs[k] (List.getElem_mem hlt) wr A3 c3 A4 c4 HB.out l3 (Kd.C_below g3 HB.out) l4 (Kd.C_below g4 HB.out)
      have HI' := idxT_drop p xs k hlt
      have hl3 := Aside0.mk l3
      clear l3 g3 l4 g4
      generalize hy : xs[k] = y at *
      have HY := Aside0.mk hy
      clear hy
      cases hq : p y with
      | true =>
        rw [hq] at HC HI'
        have HI2 := Aside0.mk HI'
        clear HI' hq
        go_wp2_with (go_at_fn g; refine HC.mono ?_; rintro e w' ⟨rfl, hb'⟩)
        go_ret
        exact ⟨by rw [HI.out, HI2.out]; rfl, HB.out.trans (hb'.mono HB.out.size)⟩
      | false =>
        rw [hq] at HC HI'
        have HI2 := Aside0.mk HI'
        clear HI' hq
        go_wp2_with (go_at_fn g; refine HC.mono ?_; rintro e w' ⟨rfl, hb'⟩)
        go_roundg (gk - 1)
        case measure => have := HK.out; omega
        case rel => exact ⟨k + 1, by have := HK.out; omega, by go_num, ⟨by rw [HI.out, HI2.out]; rfl⟩, ⟨HB.out.trans (hb'.mono HB.out.size)⟩⟩
    · have hltz : ¬ (k : Int) < (xs.length : Int) := by omega
      have hke : k = xs.length := by have := HK.out; omega
      have HKE := Aside0.mk hke
      clear hke
      go_wp2
      go_ret
      exact ⟨by rw [HI.out, HKE.out]; simp [idxT], HB.out⟩

theorem idxT_any (p : S26 → Bool) (xs : List S26) : ∀ i, decide (0 ≤ idxT p xs i) = xs.any p := by
  induction xs with
  | nil => intro i; rfl
  | cons x l ih =>
    intro i
    rw [idxT, List.any_cons]
    cases h : p x with
    | true => simp
    | false => simpa using ih (i + 1)

theorem containsFunc_calls (g : FuncId) (p : S26 → Bool) (xs : List S26) (A : Option Addr) (c : Nat) (w : World) (hr : k26.C w A xs.length xs) (eg : ∀ args w, (callFunc g args).run Try.prog w = .ok (.enter g args) w) (hp : PredT g #[] p xs w) :
    Calls Try.prog 64 #[.slice A xs.length c, .func (.func g) #[] #[]] w fun e w' => e = .returned (.bool (xs.any p)) ∧ Below w.heap.size w w' := by
  have HC := indexFunc_calls g p xs A c w hr eg hp
  have HX := Aside0.mk (idxT_any p xs 0)
  clear hp eg hr
  go_enter Try.func64, Try.ntmps64
  go_wp2_with (go_at_call 97; refine HC.mono ?_; rintro e w' ⟨rfl, hb⟩)
  go_ret
  exact ⟨ret_bool HX.out, hb⟩
end Go.Proofs.Ytkeeknlfommieaa.PF
namespace Go.Proofs.Ytkeeknlfommieaa.PF

def lowB (c : Nat) : Bool := decide (97 ≤ c) && decide (c ≤ 122)
def upB (c : Nat) : Bool := decide (65 ≤ c) && decide (c ≤ 90)
def digB (c : Nat) : Bool := decide (48 ≤ c) && decide (c ≤ 57)
/-- The rest of a name of kind q. -/
def restN (q : Int) (r : List UInt8) : Int := if r.all (fun d => lowB d.toNat || digB d.toNat || (decide (q = 2) && upB d.toNat)) then q else 0
def shapeS (k : Nat) (q : Int) (r : List UInt8) : Int :=
  if k = 0 then (match r with | [] => 0 | c :: t => if lowB c.toNat then restN 1 t else if upB c.toNat then restN 2 t else 0) else restN q r
def shapeN (l : List UInt8) : Int := if 8 < l.length then 0 else shapeS 0 0 l
def keptL : List (List UInt8) := [[108, 101, 116], [105, 110], [105, 102], [116, 104, 101, 110], [101, 108, 115, 101], [102, 110], [99, 97, 108, 108], [100, 101, 102], [116, 114, 117, 101], [102, 97, 108, 115, 101]]
def wordL : List (List UInt8) := [[73, 110, 116], [66, 111, 111, 108], [83, 116, 114, 105, 110, 103], [84, 111, 112]]
def kindN (l : List UInt8) : Int := if l ∈ keptL then 3 else if l ∈ wordL then 4 else shapeN l
def fineN (l : List UInt8) : Bool := kindN l == 1
def varN (l : List UInt8) : Bool := kindN l == 2

theorem restN_cons (q : Int) (c : UInt8) (r : List UInt8) : restN q (c :: r) = if (lowB c.toNat || digB c.toNat || (decide (q = 2) && upB c.toNat)) = true then restN q r else 0 := by
  unfold restN
  rw [List.all_cons]
  cases (lowB c.toNat || digB c.toNat || (decide (q = 2) && upB c.toNat)) <;> simp
theorem shapeS_0nil (q : Int) : shapeS 0 q [] = 0 := rfl
theorem shapeS_0low (q : Int) (c : UInt8) (t : List UInt8) (h : lowB c.toNat = true) : shapeS 0 q (c :: t) = shapeS 1 1 t := by simp [shapeS, h]
theorem shapeS_0up (q : Int) (c : UInt8) (t : List UInt8) (h : lowB c.toNat = false) (h2 : upB c.toNat = true) : shapeS 0 q (c :: t) = shapeS 1 2 t := by simp [shapeS, h, h2]
theorem shapeS_0no (q : Int) (c : UInt8) (t : List UInt8) (h : lowB c.toNat = false) (h2 : upB c.toNat = false) : shapeS 0 q (c :: t) = 0 := by simp [shapeS, h, h2]
theorem shapeS_yes (k : Nat) (q : Int) (c : UInt8) (t : List UInt8) (hk : 0 < k) (h : (lowB c.toNat || digB c.toNat || (decide (q = 2) && upB c.toNat)) = true) : shapeS k q (c :: t) = shapeS (k + 1) q t := by
  simp only [shapeS, restN_cons, h, if_true]
  rw [if_neg (by omega), if_neg (by omega)]
theorem shapeS_no (k : Nat) (q : Int) (c : UInt8) (t : List UInt8) (hk : 0 < k) (h : (lowB c.toNat || digB c.toNat || (decide (q = 2) && upB c.toNat)) = false) : shapeS k q (c :: t) = 0 := by
  simp only [shapeS, restN_cons, h]
  rw [if_neg (by omega), if_neg (by simp)]
theorem shapeS_end (k : Nat) (q : Int) (hk : 0 < k) : shapeS k q [] = q := by simp [shapeS, restN, Nat.ne_of_gt hk]
theorem no_up_of_high {c : Nat} (h : 128 ≤ c) : lowB c = false ∧ upB c = false ∧ digB c = false := by
  unfold lowB upB digB
  simp
  omega

/-- Below n, all. -/
def allUp (n : Nat) (p : Nat → Bool) : Bool := (List.range n).all p
theorem allUp_no {n : Nat} {p : Nat → Bool} {k : Nat} (hk : k < n) (h : p k = false) : allUp n p = false := by
  unfold allUp
  rw [List.all_eq_false]
  exact ⟨k, List.mem_range.2 hk, by simp [h]⟩
theorem allUp_yes {n : Nat} {p : Nat → Bool} (h : ∀ k, k < n → p k = true) : allUp n p = true := by
  unfold allUp
  rw [List.all_eq_true]
  exact fun k hk => h k (List.mem_range.1 hk)
theorem allUp_iff {n : Nat} {p : Nat → Bool} : allUp n p = true ↔ ∀ k, k < n → p k = true := by
  unfold allUp
  rw [List.all_eq_true]
  exact ⟨fun h k hk => h k (List.mem_range.2 hk), fun h k hk => h k (List.mem_range.1 hk)⟩
theorem upTo_step {p : Nat → Bool} {k : Nat} (h : ∀ j, j < k → p j = true) (hk : p k = true) : ∀ j, j < k + 1 → p j = true := by
  intro j hj
  by_cases e : j = k
  · rw [e]; exact hk
  · exact h j (by omega)
/-- A list of names: at place j a name, above the one ahead. -/
def riseAt (l : List (List UInt8)) (j : Nat) : Bool := fineN (l.getD j []) && (decide (j = 0) || Op.bytesLess (l.getD (j - 1) []) (l.getD j []))
def risingN (l : List (List UInt8)) : Bool := allUp l.length (riseAt l)
end Go.Proofs.Ytkeeknlfommieaa.PF
namespace Go.Proofs.Ytkeeknlfommieaa.PF
open Go.RowKit Go.Proofs.YtkeeknlfommieaaW.PrintWords Go.Proofs.YtkeeknlfommieaaW.PrintLast Go.Proofs.YtkeeknlfommieaaW.PrintMore

theorem low_c (c : Nat) (r : Bool) (w : World) (h : lowB c = r) : Calls Try.prog 131 #[.int .i32 c] w fun e w' => e = .returned (.bool r) ∧ w = w' := by
  unfold lowB at h
  by_cases h1 : 97 ≤ c
  · have h1' : ((97 : Int) ≤ (c : Int)) := by omega
    go_enter Try.func131, Try.ntmps131
    go_wp2
    go_ret
    exact ⟨ret_bool (by subst h; rw [Bool.eq_iff_iff]; simp; omega), rfl⟩
  · have h1' : ¬ ((97 : Int) ≤ (c : Int)) := by omega
    go_enter Try.func131, Try.ntmps131
    go_wp2
    go_ret
    exact ⟨ret_bool (by subst h; rw [Bool.eq_iff_iff]; simp; omega), rfl⟩
theorem up_c (c : Nat) (r : Bool) (w : World) (h : upB c = r) : Calls Try.prog 132 #[.int .i32 c] w fun e w' => e = .returned (.bool r) ∧ w = w' := by
  unfold upB at h
  by_cases h1 : 65 ≤ c
  · have h1' : ((65 : Int) ≤ (c : Int)) := by omega
    go_enter Try.func132, Try.ntmps132
    go_wp2
    go_ret
    exact ⟨ret_bool (by subst h; rw [Bool.eq_iff_iff]; simp; omega), rfl⟩
  · have h1' : ¬ ((65 : Int) ≤ (c : Int)) := by omega
    go_enter Try.func132, Try.ntmps132
    go_wp2
    go_ret
    exact ⟨ret_bool (by subst h; rw [Bool.eq_iff_iff]; simp; omega), rfl⟩
theorem dig_c (c : Nat) (r : Bool) (w : World) (h : digB c = r) : Calls Try.prog 133 #[.int .i32 c] w fun e w' => e = .returned (.bool r) ∧ w = w' := by
  unfold digB at h
  by_cases h1 : 48 ≤ c
  · have h1' : ((48 : Int) ≤ (c : Int)) := by omega
    go_enter Try.func133, Try.ntmps133
    go_wp2
    go_ret
    exact ⟨ret_bool (by subst h; rw [Bool.eq_iff_iff]; simp; omega), rfl⟩
  · have h1' : ¬ ((48 : Int) ≤ (c : Int)) := by omega
    go_enter Try.func133, Try.ntmps133
    go_wp2
    go_ret
    exact ⟨ret_bool (by subst h; rw [Bool.eq_iff_iff]; simp; omega), rfl⟩

theorem next_of (s : ByteArray) (pos : Nat) (h : pos < s.size) : ∃ c n : Nat, Utf8.decode s pos = (c, n) ∧ ((c = (s[pos]'h).toNat ∧ n = 1) ∨ (lowB c = false ∧ upB c = false ∧ digB c = false ∧ 128 ≤ (s[pos]'h).toNat)) := by
  by_cases ha : (s[pos]'h).toNat < 128
  · exact ⟨_, _, decode_ascii s pos h ha, .inl ⟨rfl, rfl⟩⟩
  · have := decode_high s pos h (by omega)
    obtain ⟨h1, h2, h3⟩ := no_up_of_high this.1
    exact ⟨_, _, rfl, .inr ⟨h1, h2, h3, by omega⟩⟩
theorem drop_cons (s : ByteArray) (k : Nat) (h : k < s.size) : s.data.toList.drop k = (s[k]'h) :: s.data.toList.drop (k + 1) := by
  rw [List.drop_eq_getElem_cons (by simpa using h)]; rfl

set_option maxRecDepth 100000 in
set_option maxHeartbeats 1000000 in
theorem shape_calls (s : ByteArray) (w : World) : Calls Try.prog 115 #[.string s] w fun e w' => e = .returned (.int .i64 (shapeN s.data.toList)) ∧ Below w.heap.size w w' := by
  by_cases h8 : 8 < s.size
  · have h8' : ((8 : Int) < (s.size : Int)) := by omega
    have HN := Aside0.mk (show shapeN s.data.toList = 0 from by unfold shapeN; rw [if_pos (by simpa using h8)])
    go_enter Try.func115, Try.ntmps115
    go_wp2
    go_ret
    exact ⟨ret_int HN.out.symm, Below.refl _ _⟩
  · have h8' : ¬ ((8 : Int) < (s.size : Int)) := by omega
    have HN := Aside0.mk (show shapeN s.data.toList = shapeS 0 0 s.data.toList from by unfold shapeN; rw [if_neg (by simpa using h8)])
    go_enter Try.func115, Try.ntmps115
    go_wp2_with fail
    go_loopw [3] (fun v wr => ∃ (k : Nat) (q : Int), wr = w.iter s k ∧ v = .int .i64 q ∧ Aside0 (k ≤ s.size ∧ (k = 0 ∧ q = 0 ∨ 0 < k ∧ (q = 1 ∨ q = 2)) ∧ shapeS 0 0 s.data.toList = shapeS k q (s.data.toList.drop k))) (fun _ wr => s.size - wr.iterPos w.heap.size)
    case atStart => exact ⟨0, 0, rfl, rfl, ⟨Nat.zero_le _, .inl ⟨rfl, rfl⟩, rfl⟩⟩
    case round =>
      obtain ⟨k, q, rfl, rfl, HA⟩ := hrel
      by_cases hp : k < s.size
      · obtain ⟨c, n, hcn, hc⟩ := next_of s k hp
        have hnx : ∀ ty, (Instr.next (.pointer (some ⟨w.heap.size, 0, none⟩)) true ty).run Try.prog (w.iter s k) = _ := fun ty => run_next_any w s k ty hp
        rw [hcn] at hnx
        have HCN := Aside0.mk hcn
        have HC := Aside0.mk hc
        have HD := Aside0.mk (drop_cons s k hp)
        clear hcn hc
        obtain ⟨bl, hbl⟩ : ∃ b, lowB c = b := ⟨_, rfl⟩
        obtain ⟨bu, hbu⟩ : ∃ b, upB c = b := ⟨_, rfl⟩
        obtain ⟨bg, hbg⟩ : ∃ b, digB c = b := ⟨_, rfl⟩
        have HL := Aside0.mk hbl
        have HU := Aside0.mk hbu
        have HG := Aside0.mk hbg
        have HP := Aside0.mk hp
        have hasc : (lowB c = true ∨ upB c = true ∨ digB c = true) → c = (s[k]'hp).toNat ∧ n = 1 := by
          intro hh
          rcases HC.out with h | ⟨a1, a2, a3, _⟩
          · exact h
          · simp [a1, a2, a3] at hh
        have hbyte : lowB (s[k]'hp).toNat = bl ∧ upB (s[k]'hp).toNat = bu ∧ digB (s[k]'hp).toNat = bg := by
          rcases HC.out with h | ⟨a1, a2, a3, a4⟩
          · rw [← h.1]; exact ⟨hbl, hbu, hbg⟩
          · obtain ⟨b1, b2, b3⟩ := no_up_of_high a4
            exact ⟨b1.trans (a1.symm.trans hbl), b2.trans (a2.symm.trans hbu), b3.trans (a3.symm.trans hbg)⟩
        have HY := Aside0.mk hbyte
        clear hbyte hbg hbl hbu
        by_cases h0 : k = 0
        · subst h0
          have h0' : (((0 : Nat) : Int) == 0) = true := rfl
          cases bl with
          | true =>
            have hn1 := (hasc (.inl HL.out)).2
            subst hn1
            have HN1 := Aside0.mk (show 0 < s.size from HP.out)
            clear hasc
            go_wp2_with (first | (go_at_call 131; refine (low_c _ _ _ HL.out).mono ?_; rintro e w' ⟨rfl, rfl⟩) | (go_at_call 132; refine (up_c _ _ _ HU.out).mono ?_; rintro e w' ⟨rfl, rfl⟩) | (go_at_call 133; refine (dig_c _ _ _ HG.out).mono ?_; rintro e w' ⟨rfl, rfl⟩))
            go_roundw
            case rel => exact ⟨1, 1, rfl, rfl, ⟨HP.out, .inr ⟨Nat.zero_lt_one, .inl rfl⟩, by rw [HA.out.2.2, HD.out, shapeS_0low _ _ _ HY.out.1]⟩⟩
            case measure => simp; have := HA.out.1; have := HN1.out; omega
          | false =>
            cases bu with
            | true =>
              have hn1 := (hasc (.inr (.inl HU.out))).2
              subst hn1
              have HN1 := Aside0.mk (show 0 < s.size from HP.out)
              clear hasc
              go_wp2_with (first | (go_at_call 131; refine (low_c _ _ _ HL.out).mono ?_; rintro e w' ⟨rfl, rfl⟩) | (go_at_call 132; refine (up_c _ _ _ HU.out).mono ?_; rintro e w' ⟨rfl, rfl⟩) | (go_at_call 133; refine (dig_c _ _ _ HG.out).mono ?_; rintro e w' ⟨rfl, rfl⟩))
              go_roundw
              case rel => exact ⟨1, 2, rfl, rfl, ⟨HP.out, .inr ⟨Nat.zero_lt_one, .inr rfl⟩, by rw [HA.out.2.2, HD.out, shapeS_0up _ _ _ HY.out.1 HY.out.2.1]⟩⟩
              case measure => simp; have := HA.out.1; have := HN1.out; omega
            | false =>
              clear hasc
              go_wp2_with (first | (go_at_call 131; refine (low_c _ _ _ HL.out).mono ?_; rintro e w' ⟨rfl, rfl⟩) | (go_at_call 132; refine (up_c _ _ _ HU.out).mono ?_; rintro e w' ⟨rfl, rfl⟩) | (go_at_call 133; refine (dig_c _ _ _ HG.out).mono ?_; rintro e w' ⟨rfl, rfl⟩))
              go_ret
              exact ⟨ret_int (by rw [HN.out, HA.out.2.2, HD.out, shapeS_0no _ _ _ HY.out.1 HY.out.2.1]), Below.alloc (Below.refl _ _) (Nat.le_refl _) _⟩
        · have hk0 : 0 < k := Nat.pos_of_ne_zero h0
          have h0' : ((k : Int) == 0) = false := beq_eq_false_iff_ne.2 (by omega)
          have h1' : ((0 : Int) < (k : Int)) := by omega
          have hq := HA.out.2.1
          rcases hq with hq | ⟨_, hq⟩
          · exact absurd hq.1 h0
          have HK0 := Aside0.mk hk0
          clear h0 hk0
          rcases hq with rfl | rfl
          all_goals
            cases bl with
            | true =>
              have hn1 := (hasc (.inl HL.out)).2
              subst hn1
              have HN1 := Aside0.mk (show k < s.size from HP.out)
              clear hasc
              go_wp2_with (first | (go_at_call 131; refine (low_c _ _ _ HL.out).mono ?_; rintro e w' ⟨rfl, rfl⟩) | (go_at_call 132; refine (up_c _ _ _ HU.out).mono ?_; rintro e w' ⟨rfl, rfl⟩) | (go_at_call 133; refine (dig_c _ _ _ HG.out).mono ?_; rintro e w' ⟨rfl, rfl⟩))
              go_roundw
              case rel => exact ⟨k + 1, _, rfl, rfl, ⟨HP.out, .inr ⟨Nat.succ_pos _, by first | exact .inl rfl | exact .inr rfl⟩, by rw [HA.out.2.2, HD.out, shapeS_yes _ _ _ _ HK0.out (by rw [HY.out.1]; rfl)]⟩⟩
              case measure => simp; have := HA.out.1; have := HN1.out; omega
            | false =>
              cases bg with
              | true =>
                have hn1 := (hasc (.inr (.inr HG.out))).2
                subst hn1
                have HN1 := Aside0.mk (show k < s.size from HP.out)
                clear hasc
                go_wp2_with (first | (go_at_call 131; refine (low_c _ _ _ HL.out).mono ?_; rintro e w' ⟨rfl, rfl⟩) | (go_at_call 132; refine (up_c _ _ _ HU.out).mono ?_; rintro e w' ⟨rfl, rfl⟩) | (go_at_call 133; refine (dig_c _ _ _ HG.out).mono ?_; rintro e w' ⟨rfl, rfl⟩))
                go_roundw
                case rel => exact ⟨k + 1, _, rfl, rfl, ⟨HP.out, .inr ⟨Nat.succ_pos _, by first | exact .inl rfl | exact .inr rfl⟩, by rw [HA.out.2.2, HD.out, shapeS_yes _ _ _ _ HK0.out (by rw [HY.out.1, HY.out.2.2]; rfl)]⟩⟩
                case measure => simp; have := HA.out.1; have := HN1.out; omega
              | false =>
                cases bu with
                | true =>
                  have hn1 := (hasc (.inr (.inl HU.out))).2
                  subst hn1
                  have HN1 := Aside0.mk (show k < s.size from HP.out)
                  clear hasc
                  first
                  | (go_wp2_with (first | (go_at_call 131; refine (low_c _ _ _ HL.out).mono ?_; rintro e w' ⟨rfl, rfl⟩) | (go_at_call 132; refine (up_c _ _ _ HU.out).mono ?_; rintro e w' ⟨rfl, rfl⟩) | (go_at_call 133; refine (dig_c _ _ _ HG.out).mono ?_; rintro e w' ⟨rfl, rfl⟩)); go_roundw; (case rel => exact ⟨k + 1, _, rfl, rfl, ⟨HP.out, .inr ⟨Nat.succ_pos _, by first | exact .inl rfl | exact .inr rfl⟩, by rw [HA.out.2.2, HD.out, shapeS_yes _ _ _ _ HK0.out (by rw [HY.out.1, HY.out.2.1, HY.out.2.2]; rfl)]⟩⟩); (case measure => simp; have := HA.out.1; have := HN1.out; omega))
                  | (go_wp2_with (first | (go_at_call 131; refine (low_c _ _ _ HL.out).mono ?_; rintro e w' ⟨rfl, rfl⟩) | (go_at_call 132; refine (up_c _ _ _ HU.out).mono ?_; rintro e w' ⟨rfl, rfl⟩) | (go_at_call 133; refine (dig_c _ _ _ HG.out).mono ?_; rintro e w' ⟨rfl, rfl⟩)); go_ret; exact ⟨ret_int (by rw [HN.out, HA.out.2.2, HD.out, shapeS_no _ _ _ _ HK0.out (by rw [HY.out.1, HY.out.2.1, HY.out.2.2]; rfl)]), Below.alloc (Below.refl _ _) (Nat.le_refl _) _⟩)
                | false =>
                  clear hasc
                  (go_wp2_with (first | (go_at_call 131; refine (low_c _ _ _ HL.out).mono ?_; rintro e w' ⟨rfl, rfl⟩) | (go_at_call 132; refine (up_c _ _ _ HU.out).mono ?_; rintro e w' ⟨rfl, rfl⟩) | (go_at_call 133; refine (dig_c _ _ _ HG.out).mono ?_; rintro e w' ⟨rfl, rfl⟩)); go_ret; exact ⟨ret_int (by rw [HN.out, HA.out.2.2, HD.out, shapeS_no _ _ _ _ HK0.out (by rw [HY.out.1, HY.out.2.1, HY.out.2.2]; rfl)]), Below.alloc (Below.refl _ _) (Nat.le_refl _) _⟩)
      · have hnx : ∀ ty, (Instr.next (.pointer (some ⟨w.heap.size, 0, none⟩)) true ty).run Try.prog (w.iter s k) = _ := fun ty => run_next_end w s k ty hp
        have hke : k = s.size := by have := HA.out.1; omega
        have HKE := Aside0.mk hke
        clear hke
        go_wp2
        go_ret
        refine ⟨ret_int ?_, Below.alloc (Below.refl _ _) (Nat.le_refl _) _⟩
        have hd : s.data.toList.drop k = [] := by rw [HKE.out]; simp
        rw [HN.out, HA.out.2.2, hd]
        rcases HA.out.2.1 with ⟨h0, hq⟩ | ⟨h0, _⟩
        · rw [h0, hq, shapeS_0nil]
        · rw [shapeS_end _ _ h0]
end Go.Proofs.Ytkeeknlfommieaa.PF
namespace Go.Proofs.Ytkeeknlfommieaa.PF
open Go.RowKit Go.Proofs.YtkeeknlfommieaaW.PrintWords Go.Proofs.YtkeeknlfommieaaW.PrintLast Go.Proofs.YtkeeknlfommieaaW.PrintMore

theorem toList_eq (s : ByteArray) : s.toList = s.data.toList := ByteArray.toList_eq s

set_option maxRecDepth 100000 in
set_option maxHeartbeats 1000000 in
theorem kind_calls (s : ByteArray) (w : World) : Calls Try.prog 98 #[.string s] w fun e w' => e = .returned (.int .i64 (kindN s.data.toList)) ∧ Below w.heap.size w w' := by
  have HT := Aside0.mk (toList_eq s)
  cases h0 : (s.toList == [108, 101, 116]) with
  | true =>
    have HK := Aside0.mk (show kindN s.data.toList = 3 from by rw [← HT.out, eq_of_beq h0]; decide)
    go_enter Try.func98, Try.ntmps98
    go_wp2_with (go_at_call 115; refine (shape_calls _ _).mono ?_; rintro e w' ⟨rfl, hb⟩)
    go_ret
    exact ⟨ret_int HK.out.symm, hb⟩
  | false =>
  cases h1 : (s.toList == [105, 110]) with
  | true =>
    have HK := Aside0.mk (show kindN s.data.toList = 3 from by rw [← HT.out, eq_of_beq h1]; decide)
    go_enter Try.func98, Try.ntmps98
    go_wp2_with (go_at_call 115; refine (shape_calls _ _).mono ?_; rintro e w' ⟨rfl, hb⟩)
    go_ret
    exact ⟨ret_int HK.out.symm, hb⟩
  | false =>
  cases h2 : (s.toList == [105, 102]) with
  | true =>
    have HK := Aside0.mk (show kindN s.data.toList = 3 from by rw [← HT.out, eq_of_beq h2]; decide)
    go_enter Try.func98, Try.ntmps98
    go_wp2_with (go_at_call 115; refine (shape_calls _ _).mono ?_; rintro e w' ⟨rfl, hb⟩)
    go_ret
    exact ⟨ret_int HK.out.symm, hb⟩
  | false =>
  cases h3 : (s.toList == [116, 104, 101, 110]) with
  | true =>
    have HK := Aside0.mk (show kindN s.data.toList = 3 from by rw [← HT.out, eq_of_beq h3]; decide)
    go_enter Try.func98, Try.ntmps98
    go_wp2_with (go_at_call 115; refine (shape_calls _ _).mono ?_; rintro e w' ⟨rfl, hb⟩)
    go_ret
    exact ⟨ret_int HK.out.symm, hb⟩
  | false =>
  cases h4 : (s.toList == [101, 108, 115, 101]) with
  | true =>
    have HK := Aside0.mk (show kindN s.data.toList = 3 from by rw [← HT.out, eq_of_beq h4]; decide)
    go_enter Try.func98, Try.ntmps98
    go_wp2_with (go_at_call 115; refine (shape_calls _ _).mono ?_; rintro e w' ⟨rfl, hb⟩)
    go_ret
    exact ⟨ret_int HK.out.symm, hb⟩
  | false =>
  cases h5 : (s.toList == [102, 110]) with
  | true =>
    have HK := Aside0.mk (show kindN s.data.toList = 3 from by rw [← HT.out, eq_of_beq h5]; decide)
    go_enter Try.func98, Try.ntmps98
    go_wp2_with (go_at_call 115; refine (shape_calls _ _).mono ?_; rintro e w' ⟨rfl, hb⟩)
    go_ret
    exact ⟨ret_int HK.out.symm, hb⟩
  | false =>
  cases h6 : (s.toList == [99, 97, 108, 108]) with
  | true =>
    have HK := Aside0.mk (show kindN s.data.toList = 3 from by rw [← HT.out, eq_of_beq h6]; decide)
    go_enter Try.func98, Try.ntmps98
    go_wp2_with (go_at_call 115; refine (shape_calls _ _).mono ?_; rintro e w' ⟨rfl, hb⟩)
    go_ret
    exact ⟨ret_int HK.out.symm, hb⟩
  | false =>
  cases h7 : (s.toList == [100, 101, 102]) with
  | true =>
    have HK := Aside0.mk (show kindN s.data.toList = 3 from by rw [← HT.out, eq_of_beq h7]; decide)
    go_enter Try.func98, Try.ntmps98
    go_wp2_with (go_at_call 115; refine (shape_calls _ _).mono ?_; rintro e w' ⟨rfl, hb⟩)
    go_ret
    exact ⟨ret_int HK.out.symm, hb⟩
  | false =>
  cases h8 : (s.toList == [116, 114, 117, 101]) with
  | true =>
    have HK := Aside0.mk (show kindN s.data.toList = 3 from by rw [← HT.out, eq_of_beq h8]; decide)
    go_enter Try.func98, Try.ntmps98
    go_wp2_with (go_at_call 115; refine (shape_calls _ _).mono ?_; rintro e w' ⟨rfl, hb⟩)
    go_ret
    exact ⟨ret_int HK.out.symm, hb⟩
  | false =>
  cases h9 : (s.toList == [102, 97, 108, 115, 101]) with
  | true =>
    have HK := Aside0.mk (show kindN s.data.toList = 3 from by rw [← HT.out, eq_of_beq h9]; decide)
    go_enter Try.func98, Try.ntmps98
    go_wp2_with (go_at_call 115; refine (shape_calls _ _).mono ?_; rintro e w' ⟨rfl, hb⟩)
    go_ret
    exact ⟨ret_int HK.out.symm, hb⟩
  | false =>
  cases h10 : (s.toList == [73, 110, 116]) with
  | true =>
    have HK := Aside0.mk (show kindN s.data.toList = 4 from by rw [← HT.out, eq_of_beq h10]; decide)
    go_enter Try.func98, Try.ntmps98
    go_wp2_with (go_at_call 115; refine (shape_calls _ _).mono ?_; rintro e w' ⟨rfl, hb⟩)
    go_ret
    exact ⟨ret_int HK.out.symm, hb⟩
  | false =>
  cases h11 : (s.toList == [66, 111, 111, 108]) with
  | true =>
    have HK := Aside0.mk (show kindN s.data.toList = 4 from by rw [← HT.out, eq_of_beq h11]; decide)
    go_enter Try.func98, Try.ntmps98
    go_wp2_with (go_at_call 115; refine (shape_calls _ _).mono ?_; rintro e w' ⟨rfl, hb⟩)
    go_ret
    exact ⟨ret_int HK.out.symm, hb⟩
  | false =>
  cases h12 : (s.toList == [83, 116, 114, 105, 110, 103]) with
  | true =>
    have HK := Aside0.mk (show kindN s.data.toList = 4 from by rw [← HT.out, eq_of_beq h12]; decide)
    go_enter Try.func98, Try.ntmps98
    go_wp2_with (go_at_call 115; refine (shape_calls _ _).mono ?_; rintro e w' ⟨rfl, hb⟩)
    go_ret
    exact ⟨ret_int HK.out.symm, hb⟩
  | false =>
  cases h13 : (s.toList == [84, 111, 112]) with
  | true =>
    have HK := Aside0.mk (show kindN s.data.toList = 4 from by rw [← HT.out, eq_of_beq h13]; decide)
    go_enter Try.func98, Try.ntmps98
    go_wp2_with (go_at_call 115; refine (shape_calls _ _).mono ?_; rintro e w' ⟨rfl, hb⟩)
    go_ret
    exact ⟨ret_int HK.out.symm, hb⟩
  | false =>
  have HK := Aside0.mk (show kindN s.data.toList = shapeN s.data.toList from by rw [← HT.out]; unfold kindN; rw [if_neg (by simp only [keptL, List.mem_cons, List.not_mem_nil, or_false, not_or]; exact ⟨ne_of_beq_false h0, ne_of_beq_false h1, ne_of_beq_false h2, ne_of_beq_false h3, ne_of_beq_false h4, ne_of_beq_false h5, ne_of_beq_false h6, ne_of_beq_false h7, ne_of_beq_false h8, ne_of_beq_false h9⟩), if_neg (by simp only [wordL, List.mem_cons, List.not_mem_nil, or_false, not_or]; exact ⟨ne_of_beq_false h10, ne_of_beq_false h11, ne_of_beq_false h12, ne_of_beq_false h13⟩)])
  go_enter Try.func98, Try.ntmps98
  go_wp2_with (go_at_call 115; refine (shape_calls _ _).mono ?_; rintro e w' ⟨rfl, hb⟩)
  go_ret
  exact ⟨ret_int HK.out.symm, hb⟩

theorem fine_calls (s : ByteArray) (w : World) : Calls Try.prog 99 #[.string s] w fun e w' => e = .returned (.bool (fineN s.data.toList)) ∧ Below w.heap.size w w' := by
  go_enter Try.func99, Try.ntmps99
  go_wp2_with (go_at_call 98; refine (kind_calls _ _).mono ?_; rintro e w' ⟨rfl, hb⟩)
  go_ret
  exact ⟨rfl, hb⟩
theorem var_calls (s : ByteArray) (w : World) : Calls Try.prog 66 #[.string s] w fun e w' => e = .returned (.bool (varN s.data.toList)) ∧ Below w.heap.size w w' := by
  go_enter Try.func66, Try.ntmps66
  go_wp2_with (go_at_call 98; refine (kind_calls _ _).mono ?_; rintro e w' ⟨rfl, hb⟩)
  go_ret
  exact ⟨rfl, hb⟩
set_option maxRecDepth 100000 in
set_option maxHeartbeats 1000000 in
theorem rising_calls (A : Option Addr) (c : Nat) (l : List ByteArray) (w : World) (hr : Kd.string.C w A l.length l) : Calls Try.prog 67 #[.slice A l.length c] w fun e w' => e = .returned (.bool (risingN (bl l))) ∧ Below w.heap.size w w' := by
  have HR := Aside0.mk hr
  have hlen := hr.2.1
  clear hr
  go_enter Try.func67, Try.ntmps67
  go_wp2_with fail
  go_loopg [7] l.length (fun gk i wr => ∃ k : Nat, i = .int .i64 k ∧ Aside0 (gk + k = l.length) ∧ Aside0 (∀ j, j < k → riseAt (bl l) j = true) ∧ Aside0 (Below w.heap.size w wr))
  case atStart => exact ⟨0, rfl, ⟨rfl⟩, ⟨fun j hj => absurd hj (Nat.not_lt_zero _)⟩, ⟨Below.refl _ _⟩⟩
  case round =>
    obtain ⟨k, rfl, HK, HI, HB⟩ := hrel
    by_cases hlt : k < l.length
    · have hltZ : ((k : Int) < (l.length : Int)) := by omega
      obtain ⟨ad, e, h0⟩ := elS HR.out k hlt
      cases e
      replace h0 := pw_cell_below HB.out h0
      have HLT := Aside0.mk hlt
      obtain ⟨bf, hbf⟩ : ∃ b, fineN (l[k]).data.toList = b := ⟨_, rfl⟩
      have HF := Aside0.mk hbf
      have HG := Aside0.mk (bl_getD l k hlt)
      cases bf with
      | false =>
        have HX := Aside0.mk (show risingN (bl l) = false from allUp_no (k := k) (by rw [bl_length]; exact hlt) (by unfold riseAt; rw [HG.out, hbf]; rfl))
        clear hbf
        go_wp2_with (go_at_call 99; refine (fine_calls _ _).mono ?_; rw [HF.out]; rintro e w' ⟨rfl, hb⟩)
        go_ret
        exact ⟨ret_bool HX.out.symm, HB.out.trans (hb.mono HB.out.size)⟩
      | true =>
        clear hbf
        by_cases hk0 : k = 0
        · have hz : ¬ ((0 : Int) < (k : Int)) := by omega
          have HK0 := Aside0.mk hk0
          have HX := Aside0.mk (show riseAt (bl l) k = true from by unfold riseAt; rw [HG.out, HF.out]; simp [hk0])
          clear hk0
          go_wp2_with (go_at_call 99; refine (fine_calls _ _).mono ?_; rw [HF.out]; rintro e w' ⟨rfl, hb⟩)
          go_roundg (gk - 1)
          case measure => have := HK.out; have := HLT.out; omega
          case rel => exact ⟨k + 1, by go_num, ⟨by have := HK.out; have := HLT.out; omega⟩, ⟨upTo_step HI.out HX.out⟩, ⟨HB.out.trans (hb.mono HB.out.size)⟩⟩
        · have hz : ((0 : Int) < (k : Int)) := by omega
          obtain ⟨ad', e', h1⟩ := elS HR.out (k - 1) (by omega)
          cases e'
          have HP := Aside0.mk (bl_getD l (k - 1) (by omega))
          have hc1 : ((k : Int) - 1).toNat = k - 1 := by omega
          have hk1 : (0 : Int) ≤ (k : Int) - 1 := by omega
          have hk2 : (k : Int) - 1 < (l.length : Int) := by omega
          have HK0 := Aside0.mk hk0
          clear hk0
          replace h1 := pw_cell_below HB.out h1
          have HL := Aside0.mk (show ∀ b, Op.bytesLess (l[k - 1]).toList (l[k]).toList = b → riseAt (bl l) k = b from fun b hb => by
            unfold riseAt; rw [HG.out, HF.out, HP.out, ← toList_eq, ← toList_eq, hb]; simp [HK0.out])
          go_wp2_with (go_at_call 99; refine (fine_calls _ _).mono ?_; rw [HF.out]; rintro e w' ⟨rfl, hb⟩; have h1' := pw_cell_below hb h1)
          · have hb2 : (!Op.bytesLess (l[k - 1]).toList (l[k]).toList) = true := by assumption
            have HX := HL.out _ (by simpa using hb2)
            go_ret
            exact ⟨ret_bool (Eq.symm (allUp_no (k := k) (by rw [bl_length]; exact HLT.out) HX)), HB.out.trans (hb.mono HB.out.size)⟩
          · have hb2 : (!Op.bytesLess (l[k - 1]).toList (l[k]).toList) = false := by assumption
            have HX := Aside0.mk (HL.out _ (by simpa using hb2))
            clear hb2
            go_roundg (gk - 1)
            case measure => have := HK.out; have := HLT.out; omega
            case rel => exact ⟨k + 1, by go_num, ⟨by have := HK.out; have := HLT.out; omega⟩, ⟨upTo_step HI.out HX.out⟩, ⟨HB.out.trans (hb.mono HB.out.size)⟩⟩
    · have hltz : ¬ (k : Int) < (l.length : Int) := by omega
      have HKE := Aside0.mk (show k = l.length from by have := HK.out; omega)
      have HX := Aside0.mk (show risingN (bl l) = true from allUp_yes (fun j hj => HI.out j (by rw [bl_length] at hj; rw [HKE.out]; exact hj)))
      go_wp2
      go_ret
      exact ⟨ret_bool HX.out.symm, HB.out⟩
end Go.Proofs.Ytkeeknlfommieaa.PF
namespace Go.Proofs.Ytkeeknlfommieaa.PF

theorem S26.ind {P : S26 → Prop} (h : ∀ k n nm ls ar, (∀ x ∈ ar, P x) → P ⟨k, n, nm, ls, ar⟩) : ∀ t, P t
  | ⟨k, n, nm, ls, ar⟩ => h k n nm ls ar (fun x _ => S26.ind h x)
termination_by t => SizeOf.sizeOf t

def bareT (k n : Int) (nm : ByteArray) (ls : List ByteArray) : Bool := (decide (k = 6) || nm.data.toList.isEmpty) && (decide (k = 9) || decide (n = 0)) && (decide (k = 8) || decide (ls.length = 0))
def kindT (k n : Int) (nm : ByteArray) (ls : List ByteArray) (m : Nat) : Bool :=
  if 1 ≤ k ∧ k ≤ 5 then decide (m = 0) else if k = 6 then decide (m = 0) && varN nm.data.toList else if k = 9 then decide (m = 0) && decide (0 ≤ n ∧ n ≤ 1073741824)
  else if k = 7 then decide (m = 2) else if k = 8 then decide (m = ls.length) && risingN (bl ls) else false
mutual
def rightT : S26 → Bool
  | ⟨k, n, nm, ls, ar⟩ => bareT k n nm ls && rightL ar && kindT k n nm ls ar.length
def rightL : List S26 → Bool
  | [] => true
  | x :: l => rightT x && rightL l
end
theorem rightL_all (l : List S26) : rightL l = l.all rightT := by
  induction l with
  | nil => rfl
  | cons x l ih => rw [rightL, List.all_cons, ih]
theorem rightT_eq (t : S26) : rightT t = (bareT t.f0 t.f1 t.f2 t.f3 && t.f4.all rightT && kindT t.f0 t.f1 t.f2 t.f3 t.f4.length) := by
  cases t
  rw [rightT, rightL_all]
theorem any_not (l : List S26) : (l.any fun x => !rightT x) = !l.all rightT := by
  induction l with
  | nil => rfl
  | cons x l ih => rw [List.any_cons, List.all_cons, ih, Bool.not_and]
end Go.Proofs.Ytkeeknlfommieaa.PF
namespace Go.Proofs.Ytkeeknlfommieaa.PF
open Go.RowKit Go.Shelf Go.Proofs.YtkeeknlfommieaaW.PrintWords Go.Proofs.YtkeeknlfommieaaW.PrintLast Go.Proofs.YtkeeknlfommieaaW.PrintMore

theorem bcell {W w1 : World} (hb : Below W.heap.size W w1) : (∀ b o, b < W.heap.size → w1.cell? ⟨b, o, none⟩ = W.cell? ⟨b, o, none⟩) ∧ (∀ b o, b < W.heap.size → w1.frozen? ⟨b, o, none⟩ = W.frozen? ⟨b, o, none⟩) :=
  ⟨fun b o h => hb.cell (p := ⟨b, o, none⟩) h, fun b o h => hb.frozen (p := ⟨b, o, none⟩) h⟩
theorem bare_eq (k n : Int) (nm : ByteArray) (ls : List ByteArray) (ar : List S26) : ty_bare.f k n nm ls ar = some (bareT k n nm ls) := by
  have e : (nm.toList = ([] : List UInt8)) = (nm.data.toList.isEmpty = true) := by rw [ByteArray.toList_eq]; simp
  have e2 : ((ls.length : Int) == 0) = decide (ls.length = 0) := by rw [Bool.eq_iff_iff]; simp
  unfold ty_bare.f bareT
  simp only [e, e2]
  cases nm.data.toList.isEmpty <;> by_cases h6 : k = 6 <;> by_cases h9 : k = 9 <;> by_cases h8 : k = 8 <;> by_cases hn : n = 0 <;> simp [h6, h9, h8, hn] <;> omega

theorem right1_calls (x : S26) (W : World) (A3 : Option Addr) (c3 : Nat) (A4 : Option Addr) (c4 : Nat)
    (hR : ∀ W', Below W.heap.size W W' → Calls Try.prog 26 #[.agg #[.int .i64 x.f0, .int .i64 x.f1, .string x.f2, .slice A3 x.f3.length c3, .slice A4 x.f4.length c4]] W' fun e W'' => e = .returned (.bool (rightT x)) ∧ Below W'.heap.size W' W'') :
    Calls Try.prog 65 #[.agg #[.int .i64 x.f0, .int .i64 x.f1, .string x.f2, .slice A3 x.f3.length c3, .slice A4 x.f4.length c4]] W fun e W' => e = .returned (.bool (!rightT x)) ∧ Below W.heap.size W W' := by
  have HR := Aside0.mk hR
  clear hR
  go_enter Try.func65, Try.ntmps65
  go_wp2_with (go_at_call 26; refine (HR.out _ (below_alloc (Below.refl _ _) _)).mono ?_; rintro e w' ⟨rfl, hb⟩)
  go_ret
  exact ⟨rfl, (below_alloc (Below.refl _ _) _).trans (hb.mono (by simp))⟩

set_option maxRecDepth 100000 in
set_option maxHeartbeats 2000000 in
theorem right_calls (t : S26) : ∀ (w : World) (A3 : Option Addr) (c3 : Nat) (A4 : Option Addr) (c4 : Nat) (_ : t.f3.length ≤ c3) (_ : Kd.string.C w A3 t.f3.length t.f3) (_ : t.f4.length ≤ c4) (_ : k26.C w A4 t.f4.length t.f4),
    Calls Try.prog 26 #[.agg #[.int .i64 t.f0, .int .i64 t.f1, .string t.f2, .slice A3 t.f3.length c3, .slice A4 t.f4.length c4]] w fun e w' => e = .returned (.bool (rightT t)) ∧ Below w.heap.size w w' := by
  induction t using S26.ind with
  | h k n nm ls ar ih =>
  intro w A3 c3 A4 c4 l3 g3 l4 g4
  dsimp only at l3 g3 l4 g4 ⊢
  have HB := fun (W : World) (hb : Below w.heap.size w W) => ty_bare.calls k n nm A3 c3 ls A4 c4 ar (bareT k n nm ls) W (Kd.C_below g3 hb) l3 (Kd.C_below g4 hb) l4 (bare_eq _ _ _ _ _)
  have HC := fun (W : World) (hb : Below w.heap.size w W) => containsFunc_calls 65 (fun x => !rightT x) ar A4 c4 W (Kd.C_below g4 hb) (enters_of Try.func65 (by kernel_rfl) rfl)
    (fun x hx W' B3 d3 B4 d4 hbW m3 q3 m4 q4 => right1_calls x W' B3 d3 B4 d4 (fun W'' hb'' => ih x hx W'' B3 d3 B4 d4 m3 (Kd.C_below q3 hb'') m4 (Kd.C_below q4 hb'')))
  have HB' := Aside0.mk HB
  have HC' := Aside0.mk HC
  have HE := Aside0.mk (rightT_eq ⟨k, n, nm, ls, ar⟩)
  have HG3 := Aside0.mk g3
  have HG4 := Aside0.mk g4
  clear HB HC ih g3 g4 l3 l4
  have hany := any_not ar
  obtain ⟨bb, hbb⟩ : ∃ b, bareT k n nm ls = b := ⟨_, rfl⟩
  obtain ⟨bc, hbc⟩ : ∃ b, (ar.any fun x => !rightT x) = b := ⟨_, rfl⟩
  have HBV := Aside0.mk hbb
  have HCV := Aside0.mk hbc
  have HAV := Aside0.mk hany
  clear hbb hbc hany
  cases bb with
  | false =>
    go_enter Try.func26, Try.ntmps26
    go_wp2_with (first | (go_at_call 63; refine (HB'.out _ (below_alloc (Below.refl _ _) _)).mono ?_; rw [HBV.out]; rintro e w1 ⟨rfl, hb1⟩; obtain ⟨hcell, hfroz⟩ := bcell hb1; have HB1 := Aside0.mk hb1; have hz1 : w.heap.size < w1.heap.size := (by have h_ := hb1.size; simp only [World.size_alloc] at h_; omega); clear hb1) | (go_at_call 64; refine (HC'.out _ ((below_alloc (Below.refl _ _) _).trans (HB1.out.mono (by simp)))).mono ?_; rw [HCV.out]; rintro e w2 ⟨rfl, hb2⟩; obtain ⟨hcell2, hfroz2⟩ := bcell hb2; have HB2 := Aside0.mk hb2; have hz2 : w.heap.size < w2.heap.size := Nat.lt_of_lt_of_le hz1 hb2.size; clear hb2))
    go_ret
    exact ⟨ret_bool (by rw [HE.out]; simp only [HBV.out, Bool.false_and]), (below_alloc (Below.refl _ _) _).trans (HB1.out.mono (by simp))⟩
  | true =>
    cases bc with
    | true =>
      go_enter Try.func26, Try.ntmps26
      go_wp2_with (first | (go_at_call 63; refine (HB'.out _ (below_alloc (Below.refl _ _) _)).mono ?_; rw [HBV.out]; rintro e w1 ⟨rfl, hb1⟩; obtain ⟨hcell, hfroz⟩ := bcell hb1; have HB1 := Aside0.mk hb1; have hz1 : w.heap.size < w1.heap.size := (by have h_ := hb1.size; simp only [World.size_alloc] at h_; omega); clear hb1) | (go_at_call 64; refine (HC'.out _ ((below_alloc (Below.refl _ _) _).trans (HB1.out.mono (by simp)))).mono ?_; rw [HCV.out]; rintro e w2 ⟨rfl, hb2⟩; obtain ⟨hcell2, hfroz2⟩ := bcell hb2; have HB2 := Aside0.mk hb2; have hz2 : w.heap.size < w2.heap.size := Nat.lt_of_lt_of_le hz1 hb2.size; clear hb2))
      go_ret
      exact ⟨ret_bool (by rw [HE.out]; have := HAV.out.symm.trans HCV.out; simp only [Bool.not_eq_true'] at this; simp only [HBV.out, this, Bool.false_and, Bool.and_false]), ((below_alloc (Below.refl _ _) _).trans (HB1.out.mono (by simp))).trans (HB2.out.mono (by omega))⟩
    | false =>
      have hE : rightT ⟨k, n, nm, ls, ar⟩ = kindT k n nm ls ar.length := by
        rw [HE.out]; have := HAV.out.symm.trans HCV.out; simp only [Bool.not_eq_false'] at this; simp only [HBV.out, this, Bool.true_and]
      have HE2 := Aside0.mk hE
      clear hE HE HAV
      by_cases h15 : k = 1 ∨ k = 2 ∨ k = 3 ∨ k = 4 ∨ k = 5
      · have HK := Aside0.mk (show kindT k n nm ls ar.length = decide (ar.length = 0) from by unfold kindT; rw [if_pos (by omega)])
        have HK0 := Aside0.mk (show ((ar.length : Int) == 0) = decide (ar.length = 0) from by rw [Bool.eq_iff_iff]; simp)
        rcases h15 with rfl | rfl | rfl | rfl | rfl
        all_goals
          go_enter Try.func26, Try.ntmps26
          go_wp2_with (first | (go_at_call 63; refine (HB'.out _ (below_alloc (Below.refl _ _) _)).mono ?_; rw [HBV.out]; rintro e w1 ⟨rfl, hb1⟩; obtain ⟨hcell, hfroz⟩ := bcell hb1; have HB1 := Aside0.mk hb1; have hz1 : w.heap.size < w1.heap.size := (by have h_ := hb1.size; simp only [World.size_alloc] at h_; omega); clear hb1) | (go_at_call 64; refine (HC'.out _ ((below_alloc (Below.refl _ _) _).trans (HB1.out.mono (by simp)))).mono ?_; rw [HCV.out]; rintro e w2 ⟨rfl, hb2⟩; obtain ⟨hcell2, hfroz2⟩ := bcell hb2; have HB2 := Aside0.mk hb2; have hz2 : w.heap.size < w2.heap.size := Nat.lt_of_lt_of_le hz1 hb2.size; clear hb2))
          go_ret
          exact ⟨ret_bool (by rw [HE2.out, HK.out]; exact HK0.out), ((below_alloc (Below.refl _ _) _).trans (HB1.out.mono (by simp))).trans (HB2.out.mono (by omega))⟩
      have n1 : (k == 1) = false := beq_eq_false_iff_ne.2 (by omega)
      have n2 : (k == 2) = false := beq_eq_false_iff_ne.2 (by omega)
      have n3 : (k == 3) = false := beq_eq_false_iff_ne.2 (by omega)
      have n4 : (k == 4) = false := beq_eq_false_iff_ne.2 (by omega)
      have n5 : (k == 5) = false := beq_eq_false_iff_ne.2 (by omega)
      have hk15 : ¬ (1 ≤ k ∧ k ≤ 5) := by omega
      clear h15
      by_cases h6 : k = 6
      · subst h6
        clear n1 n2 n3 n4 n5 hk15
        have HK := Aside0.mk (show kindT 6 n nm ls ar.length = (decide (ar.length = 0) && varN nm.data.toList) from by unfold kindT; simp)
        by_cases hl : ar.length = 0
        · have hl' : ((ar.length : Int) == 0) = true := beq_iff_eq.2 (by omega)
          have HL := Aside0.mk hl
          clear hl
          go_enter Try.func26, Try.ntmps26
          go_wp2_with (first | (go_at_call 63; refine (HB'.out _ (below_alloc (Below.refl _ _) _)).mono ?_; rw [HBV.out]; rintro e w1 ⟨rfl, hb1⟩; obtain ⟨hcell, hfroz⟩ := bcell hb1; have HB1 := Aside0.mk hb1; have hz1 : w.heap.size < w1.heap.size := (by have h_ := hb1.size; simp only [World.size_alloc] at h_; omega); clear hb1) | (go_at_call 64; refine (HC'.out _ ((below_alloc (Below.refl _ _) _).trans (HB1.out.mono (by simp)))).mono ?_; rw [HCV.out]; rintro e w2 ⟨rfl, hb2⟩; obtain ⟨hcell2, hfroz2⟩ := bcell hb2; have HB2 := Aside0.mk hb2; have hz2 : w.heap.size < w2.heap.size := Nat.lt_of_lt_of_le hz1 hb2.size; clear hb2) | (go_at_call 66; refine (var_calls _ _).mono ?_; rintro e w3 ⟨rfl, hb3⟩))
          go_ret
          exact ⟨ret_bool (by rw [HE2.out, HK.out, HL.out]; rfl), (((below_alloc (Below.refl _ _) _).trans (HB1.out.mono (by simp))).trans (HB2.out.mono (by omega))).trans (hb3.mono (by omega))⟩
        · have hl' : ((ar.length : Int) == 0) = false := beq_eq_false_iff_ne.2 (by omega)
          have HL := Aside0.mk (decide_eq_false hl)
          clear hl
          go_enter Try.func26, Try.ntmps26
          go_wp2_with (first | (go_at_call 63; refine (HB'.out _ (below_alloc (Below.refl _ _) _)).mono ?_; rw [HBV.out]; rintro e w1 ⟨rfl, hb1⟩; obtain ⟨hcell, hfroz⟩ := bcell hb1; have HB1 := Aside0.mk hb1; have hz1 : w.heap.size < w1.heap.size := (by have h_ := hb1.size; simp only [World.size_alloc] at h_; omega); clear hb1) | (go_at_call 64; refine (HC'.out _ ((below_alloc (Below.refl _ _) _).trans (HB1.out.mono (by simp)))).mono ?_; rw [HCV.out]; rintro e w2 ⟨rfl, hb2⟩; obtain ⟨hcell2, hfroz2⟩ := bcell hb2; have HB2 := Aside0.mk hb2; have hz2 : w.heap.size < w2.heap.size := Nat.lt_of_lt_of_le hz1 hb2.size; clear hb2))
          go_ret
          exact ⟨ret_bool (by rw [HE2.out, HK.out, HL.out]; rfl), ((below_alloc (Below.refl _ _) _).trans (HB1.out.mono (by simp))).trans (HB2.out.mono (by omega))⟩
      by_cases h9 : k = 9
      · subst h9
        clear n1 n2 n3 n4 n5 hk15 h6
        have HK := Aside0.mk (show kindT 9 n nm ls ar.length = (decide (ar.length = 0) && decide (0 ≤ n ∧ n ≤ 1073741824)) from by unfold kindT; simp)
        by_cases hl : ar.length = 0
        · have hl' : ((ar.length : Int) == 0) = true := beq_iff_eq.2 (by omega)
          have HL := Aside0.mk hl
          clear hl
          by_cases hn0 : 0 ≤ n
          · have HN := Aside0.mk (show decide (0 ≤ n ∧ n ≤ 1073741824) = decide (n ≤ 1073741824) from by rw [Bool.eq_iff_iff]; simp [hn0])
            go_enter Try.func26, Try.ntmps26
            go_wp2_with (first | (go_at_call 63; refine (HB'.out _ (below_alloc (Below.refl _ _) _)).mono ?_; rw [HBV.out]; rintro e w1 ⟨rfl, hb1⟩; obtain ⟨hcell, hfroz⟩ := bcell hb1; have HB1 := Aside0.mk hb1; have hz1 : w.heap.size < w1.heap.size := (by have h_ := hb1.size; simp only [World.size_alloc] at h_; omega); clear hb1) | (go_at_call 64; refine (HC'.out _ ((below_alloc (Below.refl _ _) _).trans (HB1.out.mono (by simp)))).mono ?_; rw [HCV.out]; rintro e w2 ⟨rfl, hb2⟩; obtain ⟨hcell2, hfroz2⟩ := bcell hb2; have HB2 := Aside0.mk hb2; have hz2 : w.heap.size < w2.heap.size := Nat.lt_of_lt_of_le hz1 hb2.size; clear hb2))
            go_ret
            exact ⟨ret_bool (by rw [HE2.out, HK.out, HL.out, HN.out]; rfl), ((below_alloc (Below.refl _ _) _).trans (HB1.out.mono (by simp))).trans (HB2.out.mono (by omega))⟩
          · have HN := Aside0.mk (show decide (0 ≤ n ∧ n ≤ 1073741824) = false from by simp [hn0])
            go_enter Try.func26, Try.ntmps26
            go_wp2_with (first | (go_at_call 63; refine (HB'.out _ (below_alloc (Below.refl _ _) _)).mono ?_; rw [HBV.out]; rintro e w1 ⟨rfl, hb1⟩; obtain ⟨hcell, hfroz⟩ := bcell hb1; have HB1 := Aside0.mk hb1; have hz1 : w.heap.size < w1.heap.size := (by have h_ := hb1.size; simp only [World.size_alloc] at h_; omega); clear hb1) | (go_at_call 64; refine (HC'.out _ ((below_alloc (Below.refl _ _) _).trans (HB1.out.mono (by simp)))).mono ?_; rw [HCV.out]; rintro e w2 ⟨rfl, hb2⟩; obtain ⟨hcell2, hfroz2⟩ := bcell hb2; have HB2 := Aside0.mk hb2; have hz2 : w.heap.size < w2.heap.size := Nat.lt_of_lt_of_le hz1 hb2.size; clear hb2))
            go_ret
            exact ⟨ret_bool (by rw [HE2.out, HK.out, HL.out, HN.out]; rfl), ((below_alloc (Below.refl _ _) _).trans (HB1.out.mono (by simp))).trans (HB2.out.mono (by omega))⟩
        · have hl' : ((ar.length : Int) == 0) = false := beq_eq_false_iff_ne.2 (by omega)
          have HL := Aside0.mk (decide_eq_false hl)
          clear hl
          go_enter Try.func26, Try.ntmps26
          go_wp2_with (first | (go_at_call 63; refine (HB'.out _ (below_alloc (Below.refl _ _) _)).mono ?_; rw [HBV.out]; rintro e w1 ⟨rfl, hb1⟩; obtain ⟨hcell, hfroz⟩ := bcell hb1; have HB1 := Aside0.mk hb1; have hz1 : w.heap.size < w1.heap.size := (by have h_ := hb1.size; simp only [World.size_alloc] at h_; omega); clear hb1) | (go_at_call 64; refine (HC'.out _ ((below_alloc (Below.refl _ _) _).trans (HB1.out.mono (by simp)))).mono ?_; rw [HCV.out]; rintro e w2 ⟨rfl, hb2⟩; obtain ⟨hcell2, hfroz2⟩ := bcell hb2; have HB2 := Aside0.mk hb2; have hz2 : w.heap.size < w2.heap.size := Nat.lt_of_lt_of_le hz1 hb2.size; clear hb2))
          go_ret
          exact ⟨ret_bool (by rw [HE2.out, HK.out, HL.out]; rfl), ((below_alloc (Below.refl _ _) _).trans (HB1.out.mono (by simp))).trans (HB2.out.mono (by omega))⟩
      by_cases h7 : k = 7
      · subst h7
        clear n1 n2 n3 n4 n5 hk15 h6 h9
        have HK := Aside0.mk (show kindT 7 n nm ls ar.length = decide (ar.length = 2) from by unfold kindT; simp)
        have HK0 := Aside0.mk (show ((ar.length : Int) == 2) = decide (ar.length = 2) from by rw [Bool.eq_iff_iff]; simp; omega)
        go_enter Try.func26, Try.ntmps26
        go_wp2_with (first | (go_at_call 63; refine (HB'.out _ (below_alloc (Below.refl _ _) _)).mono ?_; rw [HBV.out]; rintro e w1 ⟨rfl, hb1⟩; obtain ⟨hcell, hfroz⟩ := bcell hb1; have HB1 := Aside0.mk hb1; have hz1 : w.heap.size < w1.heap.size := (by have h_ := hb1.size; simp only [World.size_alloc] at h_; omega); clear hb1) | (go_at_call 64; refine (HC'.out _ ((below_alloc (Below.refl _ _) _).trans (HB1.out.mono (by simp)))).mono ?_; rw [HCV.out]; rintro e w2 ⟨rfl, hb2⟩; obtain ⟨hcell2, hfroz2⟩ := bcell hb2; have HB2 := Aside0.mk hb2; have hz2 : w.heap.size < w2.heap.size := Nat.lt_of_lt_of_le hz1 hb2.size; clear hb2))
        go_ret
        exact ⟨ret_bool (by rw [HE2.out, HK.out]; exact HK0.out), ((below_alloc (Below.refl _ _) _).trans (HB1.out.mono (by simp))).trans (HB2.out.mono (by omega))⟩
      by_cases h8 : k = 8
      · subst h8
        clear n1 n2 n3 n4 n5 hk15 h6 h7 h9
        have HK := Aside0.mk (show kindT 8 n nm ls ar.length = (decide (ar.length = ls.length) && risingN (bl ls)) from by unfold kindT; simp)
        by_cases hl : ar.length = ls.length
        · have hl' : ((ar.length : Int) == (ls.length : Int)) = true := beq_iff_eq.2 (by omega)
          have HL := Aside0.mk hl
          clear hl
          go_enter Try.func26, Try.ntmps26
          go_wp2_with (first | (go_at_call 63; refine (HB'.out _ (below_alloc (Below.refl _ _) _)).mono ?_; rw [HBV.out]; rintro e w1 ⟨rfl, hb1⟩; obtain ⟨hcell, hfroz⟩ := bcell hb1; have HB1 := Aside0.mk hb1; have hz1 : w.heap.size < w1.heap.size := (by have h_ := hb1.size; simp only [World.size_alloc] at h_; omega); clear hb1) | (go_at_call 64; refine (HC'.out _ ((below_alloc (Below.refl _ _) _).trans (HB1.out.mono (by simp)))).mono ?_; rw [HCV.out]; rintro e w2 ⟨rfl, hb2⟩; obtain ⟨hcell2, hfroz2⟩ := bcell hb2; have HB2 := Aside0.mk hb2; have hz2 : w.heap.size < w2.heap.size := Nat.lt_of_lt_of_le hz1 hb2.size; clear hb2) | (go_at_call 67; refine (rising_calls _ _ _ _ (Kd.C_below HG3.out ((((below_alloc (Below.refl _ _) _).trans (HB1.out.mono (by simp))).trans (HB2.out.mono (by omega)))))).mono ?_; rintro e w3 ⟨rfl, hb3⟩))
          go_ret
          exact ⟨ret_bool (by rw [HE2.out, HK.out, HL.out]; simp), (((below_alloc (Below.refl _ _) _).trans (HB1.out.mono (by simp))).trans (HB2.out.mono (by omega))).trans (hb3.mono (by omega))⟩
        · have hl' : ((ar.length : Int) == (ls.length : Int)) = false := beq_eq_false_iff_ne.2 (by omega)
          have HL := Aside0.mk (decide_eq_false hl)
          clear hl
          go_enter Try.func26, Try.ntmps26
          go_wp2_with (first | (go_at_call 63; refine (HB'.out _ (below_alloc (Below.refl _ _) _)).mono ?_; rw [HBV.out]; rintro e w1 ⟨rfl, hb1⟩; obtain ⟨hcell, hfroz⟩ := bcell hb1; have HB1 := Aside0.mk hb1; have hz1 : w.heap.size < w1.heap.size := (by have h_ := hb1.size; simp only [World.size_alloc] at h_; omega); clear hb1) | (go_at_call 64; refine (HC'.out _ ((below_alloc (Below.refl _ _) _).trans (HB1.out.mono (by simp)))).mono ?_; rw [HCV.out]; rintro e w2 ⟨rfl, hb2⟩; obtain ⟨hcell2, hfroz2⟩ := bcell hb2; have HB2 := Aside0.mk hb2; have hz2 : w.heap.size < w2.heap.size := Nat.lt_of_lt_of_le hz1 hb2.size; clear hb2))
          go_ret
          exact ⟨ret_bool (by rw [HE2.out, HK.out, HL.out]; rfl), ((below_alloc (Below.refl _ _) _).trans (HB1.out.mono (by simp))).trans (HB2.out.mono (by omega))⟩
      have HK := Aside0.mk (show kindT k n nm ls ar.length = false from by unfold kindT; rw [if_neg hk15, if_neg h6, if_neg h9, if_neg h7, if_neg h8])
      have n6 : (k == 6) = false := beq_eq_false_iff_ne.2 (by omega)
      have n7 : (k == 7) = false := beq_eq_false_iff_ne.2 (by omega)
      have n8 : (k == 8) = false := beq_eq_false_iff_ne.2 (by omega)
      have n9 : (k == 9) = false := beq_eq_false_iff_ne.2 (by omega)
      clear h6 h7 h8 h9 hk15
      go_enter Try.func26, Try.ntmps26
      go_wp2_with (first | (go_at_call 63; refine (HB'.out _ (below_alloc (Below.refl _ _) _)).mono ?_; rw [HBV.out]; rintro e w1 ⟨rfl, hb1⟩; obtain ⟨hcell, hfroz⟩ := bcell hb1; have HB1 := Aside0.mk hb1; have hz1 : w.heap.size < w1.heap.size := (by have h_ := hb1.size; simp only [World.size_alloc] at h_; omega); clear hb1) | (go_at_call 64; refine (HC'.out _ ((below_alloc (Below.refl _ _) _).trans (HB1.out.mono (by simp)))).mono ?_; rw [HCV.out]; rintro e w2 ⟨rfl, hb2⟩; obtain ⟨hcell2, hfroz2⟩ := bcell hb2; have HB2 := Aside0.mk hb2; have hz2 : w.heap.size < w2.heap.size := Nat.lt_of_lt_of_le hz1 hb2.size; clear hb2))
      go_ret
      exact ⟨ret_bool (by rw [HE2.out, HK.out]), ((below_alloc (Below.refl _ _) _).trans (HB1.out.mono (by simp))).trans (HB2.out.mono (by omega))⟩
end Go.Proofs.Ytkeeknlfommieaa.PF
namespace Go.Proofs.Ytkeeknlfommieaa.PF
noncomputable def eqB {α : Type} (a b : α) : Bool := @decide (a = b) (Classical.propDecidable _)
theorem eqB_iff {α : Type} {a b : α} : eqB a b = true ↔ a = b := by unfold eqB; exact @decide_eq_true_iff _ (Classical.propDecidable _)
theorem eqB_self {α : Type} (a : α) : eqB a a = true := eqB_iff.2 rfl
theorem eqB_false {α : Type} {a b : α} (h : a ≠ b) : eqB a b = false := by rw [← Bool.not_eq_true]; exact fun e => h (eqB_iff.1 e)
theorem eqB_comm {α : Type} (a b : α) : eqB a b = eqB b a := by rw [Bool.eq_iff_iff, eqB_iff, eqB_iff]; exact eq_comm
theorem eqB_congr {α β : Type} {a b : α} {c d : β} (h : a = b ↔ c = d) : eqB a b = eqB c d := by rw [Bool.eq_iff_iff, eqB_iff, eqB_iff]; exact h
theorem drop_head {α : Type} (l : List α) (i : Nat) (h : i < l.length) : l.drop i = l[i] :: l.drop (i + 1) := List.drop_eq_getElem_cons h
theorem bytes_ext {a b : ByteArray} (h : a.toList = b.toList) : a = b := by
  rw [ByteArray.toList_eq, ByteArray.toList_eq] at h
  cases a; cases b
  simp at h
  rw [h]
theorem bytes_iff {a b : ByteArray} : a.toList = b.toList ↔ a = b := ⟨bytes_ext, fun h => by rw [h]⟩
theorem s26_eta (t : S26) : t = ⟨t.f0, t.f1, t.f2, t.f3, t.f4⟩ := by cases t; rfl
theorem s26_iff (a b : S26) : a = b ↔ a.f0 = b.f0 ∧ a.f1 = b.f1 ∧ a.f2 = b.f2 ∧ a.f3 = b.f3 ∧ a.f4 = b.f4 := by
  cases a; cases b
  simp
end Go.Proofs.Ytkeeknlfommieaa.PF
namespace Go.Proofs.Ytkeeknlfommieaa.PF
open Go.RowKit Go.Shelf Go.Proofs.YtkeeknlfommieaaW.PrintWords Go.Proofs.YtkeeknlfommieaaW.PrintLast Go.Proofs.YtkeeknlfommieaaW.PrintMore

theorem rdS_getElem (xs : List ByteArray) (i : Nat) (h : i < xs.length) : rdOf ByteArray.empty xs (i : Int) = xs[i] := by
  simp [rdOf, List.getD_eq_getElem?_getD, List.getElem?_eq_getElem h]
theorem equalS_l0 (l m : List ByteArray) (h : l.length = m.length) (hl : l.length ≤ 9223372036854775807) : ∀ (d i k : Nat), i + d = l.length → d < k → slices_Equal_string_string.l0 k l m (l.length : Int) i = some (eqB (l.drop i) (m.drop i)) := by
  intro d
  induction d with
  | zero =>
    intro i k hi hk
    obtain ⟨k, rfl⟩ : ∃ q, k = q + 1 := ⟨k - 1, by omega⟩
    rw [slices_Equal_string_string.l0, if_neg (by omega), List.drop_eq_nil_of_le (by omega), List.drop_eq_nil_of_le (by omega), eqB_self]
  | succ d ih =>
    intro i k hi hk
    obtain ⟨k, rfl⟩ : ∃ q, k = q + 1 := ⟨k - 1, by omega⟩
    rw [slices_Equal_string_string.l0, if_pos (by omega), if_pos (by omega), if_pos (by omega), if_pos (by omega), rdS_getElem l i (by omega), rdS_getElem m i (by omega), drop_head l i (by omega), drop_head m i (by omega)]
    by_cases e : l[i] = m[i]
    · rw [if_pos (by rw [e]), show wrap64 ((i : Int) + 1) = ((i + 1 : Nat) : Int) from by unfold wrap64; omega, ih (i + 1) k (by omega) (by omega)]
      exact congrArg some (eqB_congr ⟨fun h2 => by rw [e, h2], fun h2 => (List.cons.inj h2).2⟩)
    · rw [if_neg (fun h => e (bytes_ext h))]
      exact congrArg some (eqB_false (fun h2 => e (List.cons.inj h2).1)).symm
theorem equalS_calls (A0 : Option Addr) (c0 : Nat) (l0 : List ByteArray) (A1 : Option Addr) (c1 : Nat) (l1 : List ByteArray) (w : World) (hr0 : Kd.C Kd.string w A0 l0.length l0) (hc0 : l0.length ≤ c0) (hr1 : Kd.C Kd.string w A1 l1.length l1) (hc1 : l1.length ≤ c1) :
    Calls Try.prog 72 #[.slice A0 l0.length c0, .slice A1 l1.length c1] w fun e w' => e = .returned (.bool (eqB l0 l1)) ∧ Below w.heap.size w w' := by
  have hf : slices_Equal_string_string.f (l0.length + 1) l0 l1 = some (eqB l0 l1) := by
    unfold slices_Equal_string_string.f
    by_cases h : l0.length = l1.length
    · rw [if_pos (by omega)]
      simpa using equalS_l0 l0 l1 h hr0.2.1 l0.length 0 (l0.length + 1) (by omega) (by omega)
    · rw [if_neg (by omega), eqB_false (fun e => h (by rw [e]))]
  exact (slices_Equal_string_string.calls _ A0 c0 l0 A1 c1 l1 _ w hr0 hc0 hr1 hc1 hf).mono fun e w' ⟨he, hd⟩ => ⟨he, hd.below⟩

/-- A function value that answers whether two types are one. -/
def SameAt (g : FuncId) (xs : List S26) (w : World) : Prop :=
  ∀ x ∈ xs, ∀ (y : S26) (W : World) (A3 : Option Addr) (c3 : Nat) (A4 : Option Addr) (c4 : Nat) (B3 : Option Addr) (d3 : Nat) (B4 : Option Addr) (d4 : Nat), Below w.heap.size w W → x.f3.length ≤ c3 → Kd.string.C W A3 x.f3.length x.f3 → x.f4.length ≤ c4 → k26.C W A4 x.f4.length x.f4 → y.f3.length ≤ d3 → Kd.string.C W B3 y.f3.length y.f3 → y.f4.length ≤ d4 → k26.C W B4 y.f4.length y.f4 →
    Calls Try.prog g #[.agg #[.int .i64 x.f0, .int .i64 x.f1, .string x.f2, .slice A3 x.f3.length c3, .slice A4 x.f4.length c4], .agg #[.int .i64 y.f0, .int .i64 y.f1, .string y.f2, .slice B3 y.f3.length d3, .slice B4 y.f4.length d4]] W fun e W' => e = .returned (.bool (eqB x y)) ∧ Below W.heap.size W W'

set_option maxRecDepth 100000 in
set_option maxHeartbeats 1000000 in
theorem equalFunc_calls (g : FuncId) (xs ys : List S26) (A : Option Addr) (c : Nat) (B : Option Addr) (d : Nat) (w : World) (hx : k26.C w A xs.length xs) (hy : k26.C w B ys.length ys) (eg : ∀ args w, (callFunc g args).run Try.prog w = .ok (.enter g args) w) (hp : SameAt g xs w) :
    Calls Try.prog 73 #[.slice A xs.length c, .slice B ys.length d, .func (.func g) #[] #[]] w fun e w' => e = .returned (.bool (eqB xs ys)) ∧ Below w.heap.size w w' := by
  have HX := Aside0.mk hx
  have HY := Aside0.mk hy
  have HP := Aside0.mk hp
  have hlen := hx.2.1
  clear hx hy hp
  by_cases hl : xs.length = ys.length
  · have hl' : (((xs.length : Int)) != (ys.length : Int)) = false := by rw [bne_eq_false_iff_eq]; omega
    have HL := Aside0.mk hl
    clear hl
    go_enter Try.func73, Try.ntmps73
    go_wp2_with fail
    go_loopg [17] xs.length (fun gk i wr => ∃ k : Nat, i = .int .i64 k ∧ Aside0 (gk + k = xs.length) ∧ Aside0 (xs.take k = ys.take k) ∧ Aside0 (Below w.heap.size w wr))
    case atStart => exact ⟨0, rfl, ⟨rfl⟩, ⟨rfl⟩, ⟨Below.refl _ _⟩⟩
    case round =>
      obtain ⟨k, rfl, HK, HI, HB⟩ := hrel
      by_cases hlt : k < xs.length
      · have hltZ : ((k : Int) < (xs.length : Int)) := by omega
        have hlt2 : k < ys.length := by have := HL.out; omega
        have hltZ2 : ((k : Int) < (ys.length : Int)) := by omega
        obtain ⟨ad, A3, c3, A4, c4, e, h0, h1, h2, h3, h4, l3, g3, l4, g4⟩ := el26 (Kd.C_below HX.out HB.out) k hlt
        cases e
        obtain ⟨bd, B3, d3, B4, d4, e, q0, q1, q2, q3, q4, m3, f3, m4, f4⟩ := el26 (Kd.C_below HY.out HB.out) k hlt2
        cases e
        have HLT := Aside0.mk (And.intro hlt hlt2)
        generalize hxe : xs[k] = x at *
        generalize hye : ys[k] = y at *
        have al : ∀ (o : Obj) (a : Addr) (u : Value), wr.cell? a = some u → (wr.alloc o).cell? a = some u := fun o a u hu => pw_cell_below (below_alloc (Below.refl _ _) o) hu
        have q0' := fun o => al o _ _ q0
        have q1' := fun o => al o _ _ q1
        have q2' := fun o => al o _ _ q2
        have q3' := fun o => al o _ _ q3
        have q4' := fun o => al o _ _ q4
        have HIX := Aside0.mk (show ∀ b, eqB x y = b → (b = true → xs.take (k + 1) = ys.take (k + 1)) ∧ (b = false → eqB xs ys = false) from by
          intro b hb
          refine ⟨fun e => ?_, fun e => eqB_false (fun e2 => ?_)⟩
          · subst e
            have hxy := eqB_iff.1 hb
            rw [List.take_succ_eq_append_getElem hlt, List.take_succ_eq_append_getElem hlt2, HI.out, hxe, hye, hxy]
          · subst e
            have : x = y := by rw [← hxe, ← hye]; simp only [e2]
            rw [this, eqB_self] at hb
            cases hb)
        have HLT := Aside0.mk hlt
        have HC := Aside0.mk (HP.out x (by rw [← hxe]; exact List.getElem_mem hlt) y ((wr.alloc (.cells #[.int .i64 x.f0, .int .i64 x.f1, .string x.f2, .slice A3 x.f3.length c3, .slice A4 x.f4.length c4] 26)).alloc (.cells #[.int .i64 y.f0, .int .i64 y.f1, .string y.f2, .slice B3 y.f3.length d3, .slice B4 y.f4.length d4] 26)) A3 c3 A4 c4 B3 d3 B4 d4 (HB.out.trans ((below_alloc (below_alloc (Below.refl _ _) _) _).mono HB.out.size)) l3 (Kd.C_below g3 (below_alloc (below_alloc (Below.refl _ _) _) _)) l4 (Kd.C_below g4 (below_alloc (below_alloc (Below.refl _ _) _) _)) m3 (Kd.C_below f3 (below_alloc (below_alloc (Below.refl _ _) _) _)) m4 (Kd.C_below f4 (below_alloc (below_alloc (Below.refl _ _) _) _)))
        clear hxe hye al l3 g3 l4 g4 m3 f3 m4 f4 hlt2 q0 q1 q2 q3 q4
        obtain ⟨b, hb⟩ : ∃ b, eqB x y = b := ⟨_, rfl⟩
        have HBV := Aside0.mk hb
        clear hb
        cases b with
        | true =>
          go_wp2_with (go_at_fn g; refine HC.out.mono ?_; rw [HBV.out]; rintro e w' ⟨rfl, hb'⟩)
          go_roundg (gk - 1)
          case measure => have := HK.out; have := HLT.out; omega
          case rel => exact ⟨k + 1, by go_num, ⟨by have := HK.out; have := HLT.out; omega⟩, ⟨(HIX.out _ HBV.out).1 rfl⟩, ⟨HB.out.trans (((below_alloc (below_alloc (Below.refl _ _) _) _).trans (hb'.mono (by simp; omega))).mono HB.out.size)⟩⟩
        | false =>
          go_wp2_with (go_at_fn g; refine HC.out.mono ?_; rw [HBV.out]; rintro e w' ⟨rfl, hb'⟩)
          go_ret
          exact ⟨ret_bool ((HIX.out _ HBV.out).2 rfl).symm, HB.out.trans (((below_alloc (below_alloc (Below.refl _ _) _) _).trans (hb'.mono (by simp; omega))).mono HB.out.size)⟩
      · have hltz : ¬ (k : Int) < (xs.length : Int) := by omega
        have HX2 := Aside0.mk (show eqB xs ys = true from eqB_iff.2 (by
          have h1 : k = xs.length := by have := HK.out; omega
          have h2 := HI.out
          rw [h1, List.take_length, HL.out, List.take_length] at h2
          exact h2))
        go_wp2
        go_ret
        exact ⟨ret_bool HX2.out.symm, HB.out⟩
  · have hl' : (((xs.length : Int)) != (ys.length : Int)) = true := by rw [bne_iff_ne]; omega
    have HX2 := Aside0.mk (show eqB xs ys = false from eqB_false (fun e => hl (by rw [e])))
    clear hl
    go_enter Try.func73, Try.ntmps73
    go_wp2
    go_ret
    exact ⟨ret_bool HX2.out.symm, Below.refl _ _⟩

set_option maxRecDepth 100000 in
set_option maxHeartbeats 2000000 in
theorem same_calls (x : S26) : ∀ (y : S26) (w : World) (A3 : Option Addr) (c3 : Nat) (A4 : Option Addr) (c4 : Nat) (B3 : Option Addr) (d3 : Nat) (B4 : Option Addr) (d4 : Nat) (_ : x.f3.length ≤ c3) (_ : Kd.string.C w A3 x.f3.length x.f3) (_ : x.f4.length ≤ c4) (_ : k26.C w A4 x.f4.length x.f4) (_ : y.f3.length ≤ d3) (_ : Kd.string.C w B3 y.f3.length y.f3) (_ : y.f4.length ≤ d4) (_ : k26.C w B4 y.f4.length y.f4),
    Calls Try.prog 37 #[.agg #[.int .i64 x.f0, .int .i64 x.f1, .string x.f2, .slice A3 x.f3.length c3, .slice A4 x.f4.length c4], .agg #[.int .i64 y.f0, .int .i64 y.f1, .string y.f2, .slice B3 y.f3.length d3, .slice B4 y.f4.length d4]] w fun e w' => e = .returned (.bool (eqB x y)) ∧ Below w.heap.size w w' := by
  induction x using S26.ind with
  | h k n nm ls ar ih =>
  intro y w A3 c3 A4 c4 B3 d3 B4 d4 l3 g3 l4 g4 m3 f3 m4 f4
  obtain ⟨k', n', nm', ls', ar'⟩ := y
  dsimp only at l3 g3 l4 g4 m3 f3 m4 f4 ⊢
  have HI := Aside0.mk (s26_iff ⟨k, n, nm, ls, ar⟩ ⟨k', n', nm', ls', ar'⟩)
  have HE := Aside0.mk (fun (W : World) (hb : Below w.heap.size w W) => equalS_calls A3 c3 ls B3 d3 ls' W (Kd.C_below g3 hb) l3 (Kd.C_below f3 hb) m3)
  have HF := Aside0.mk (fun (W : World) (hb : Below w.heap.size w W) => equalFunc_calls 37 ar ar' A4 c4 B4 d4 W (Kd.C_below g4 hb) (Kd.C_below f4 hb) (enters_of Try.func37 (by kernel_rfl) rfl)
    (fun x hx y W' a3 e3 a4 e4 b3 o3 b4 o4 hb' p1 p2 p3 p4 p5 p6 p7 p8 => ih x hx y W' a3 e3 a4 e4 b3 o3 b4 o4 p1 p2 p3 p4 p5 p6 p7 p8))
  clear ih l3 g3 l4 g4 m3 f3 m4 f4
  have H2 := Aside0.mk (fun o o' => below_alloc (below_alloc (Below.refl w.heap.size w) o) o')
  by_cases h0 : k = k'
  · have h0' : (k == k') = true := beq_iff_eq.2 h0
    have H0 := Aside0.mk h0
    clear h0
    by_cases h1 : n = n'
    · have h1' : (n == n') = true := beq_iff_eq.2 h1
      have H1 := Aside0.mk h1
      clear h1
      by_cases h2 : nm = nm'
      · have h2' : (nm.toList == nm'.toList) = true := by rw [h2]; simp
        have H3 := Aside0.mk h2
        clear h2
        have HXY := Aside0.mk (show ∀ b1 b2, eqB ls ls' = b1 → eqB ar ar' = b2 → eqB (⟨k, n, nm, ls, ar⟩ : S26) ⟨k', n', nm', ls', ar'⟩ = (b1 && b2) from by
          rintro b1 b2 rfl rfl
          rw [Bool.eq_iff_iff, Bool.and_eq_true, eqB_iff, eqB_iff, eqB_iff, HI.out]
          exact ⟨fun e => e.2.2.2, fun e => ⟨H0.out, H1.out, H3.out, e⟩⟩)
        obtain ⟨b1, hb1⟩ : ∃ b, eqB ls ls' = b := ⟨_, rfl⟩
        obtain ⟨b2, hb2⟩ : ∃ b, eqB ar ar' = b := ⟨_, rfl⟩
        have HB1 := Aside0.mk hb1
        have HB2 := Aside0.mk hb2
        clear hb1 hb2
        cases b1 with
        | true =>
          go_enter Try.func37, Try.ntmps37
          go_wp2_with (first | (go_at_call 72; refine (HE.out _ (H2.out _ _)).mono ?_; rw [HB1.out]; rintro e w1 ⟨rfl, hbw⟩; obtain ⟨hcell, hfroz⟩ := bcell hbw; have HW1 := Aside0.mk hbw; have hz1 : w.heap.size + 1 < w1.heap.size := (by have h_ := hbw.size; simp only [World.size_alloc] at h_; omega); have hz0 : w.heap.size < w1.heap.size := Nat.lt_of_succ_lt hz1; clear hbw) | (go_at_call 73; refine (HF.out _ ((H2.out _ _).trans (HW1.out.mono (by simp; omega)))).mono ?_; rw [HB2.out]; rintro e w2 ⟨rfl, hbw2⟩))
          go_ret
          exact ⟨ret_bool (HXY.out _ _ HB1.out HB2.out).symm, ((H2.out _ _).trans (HW1.out.mono (by simp; omega))).trans (hbw2.mono (by omega))⟩
        | false =>
          go_enter Try.func37, Try.ntmps37
          go_wp2_with (go_at_call 72; refine (HE.out _ (H2.out _ _)).mono ?_; rw [HB1.out]; rintro e w1 ⟨rfl, hbw⟩)
          go_ret
          exact ⟨ret_bool (HXY.out _ _ HB1.out HB2.out).symm, (H2.out _ _).trans (hbw.mono (by simp; omega))⟩
      · have h2' : (nm.toList == nm'.toList) = false := beq_eq_false_iff_ne.2 (fun e => h2 (bytes_ext e))
        have HX := Aside0.mk (show eqB (⟨k, n, nm, ls, ar⟩ : S26) ⟨k', n', nm', ls', ar'⟩ = false from eqB_false (fun e => h2 (HI.out.1 e).2.2.1))
        clear h2
        go_enter Try.func37, Try.ntmps37
        go_wp2
        go_ret
        exact ⟨ret_bool HX.out.symm, H2.out _ _⟩
    · have h1' : (n == n') = false := beq_eq_false_iff_ne.2 h1
      have HX := Aside0.mk (show eqB (⟨k, n, nm, ls, ar⟩ : S26) ⟨k', n', nm', ls', ar'⟩ = false from eqB_false (fun e => h1 (HI.out.1 e).2.1))
      clear h1
      go_enter Try.func37, Try.ntmps37
      go_wp2
      go_ret
      exact ⟨ret_bool HX.out.symm, H2.out _ _⟩
  · have h0' : (k == k') = false := beq_eq_false_iff_ne.2 h0
    have HX := Aside0.mk (show eqB (⟨k, n, nm, ls, ar⟩ : S26) ⟨k', n', nm', ls', ar'⟩ = false from eqB_false (fun e => h0 (HI.out.1 e).1))
    clear h0
    go_enter Try.func37, Try.ntmps37
    go_wp2
    go_ret
    exact ⟨ret_bool HX.out.symm, H2.out _ _⟩
end Go.Proofs.Ytkeeknlfommieaa.PF
namespace Go.Proofs.Ytkeeknlfommieaa.PF
open Go.RowKit Go.Shelf Go.Proofs.YtkeeknlfommieaaW.PrintWords Go.Proofs.YtkeeknlfommieaaW.PrintLast Go.Proofs.YtkeeknlfommieaaW.PrintMore

theorem rsame_l0 (l m : List ByteArray) (h : l.length = m.length) (hl : l.length ≤ 9223372036854775807) : ∀ (d i k : Nat), i + d = l.length → 2 * d + 1 < k → limbeckref01_Same.l0 k l m i = some (eqB (l.drop i) (m.drop i)) := by
  intro d
  induction d with
  | zero =>
    intro i k hi hk
    obtain ⟨k, rfl⟩ : ∃ q, k = q + 1 + 1 := ⟨k - 2, by omega⟩
    rw [limbeckref01_Same.l0, if_neg (by omega), List.drop_eq_nil_of_le (by omega), List.drop_eq_nil_of_le (by omega), eqB_self, limbeckref01_Same.j1]
    rfl
  | succ d ih =>
    intro i k hi hk
    obtain ⟨k, rfl⟩ : ∃ q, k = q + 1 + 1 := ⟨k - 2, by omega⟩
    rw [limbeckref01_Same.l0, if_pos (by omega), limbeckref01_Same.j1, if_pos (by simp; omega), if_pos (by omega), if_pos (by omega), if_pos (by omega), rdS_getElem l i (by omega), rdS_getElem m i (by omega), drop_head l i (by omega), drop_head m i (by omega)]
    by_cases e : l[i] = m[i]
    · rw [if_pos (by rw [e]), show wrap64 ((i : Int) + 1) = ((i + 1 : Nat) : Int) from by unfold wrap64; omega, ih (i + 1) k (by omega) (by omega)]
      exact congrArg some (eqB_congr ⟨fun h2 => by rw [e, h2], fun h2 => (List.cons.inj h2).2⟩)
    · rw [if_neg (fun h => e (bytes_ext h))]
      exact congrArg some (eqB_false (fun h2 => e (List.cons.inj h2).1)).symm
theorem rsameS_calls (A0 : Option Addr) (c0 : Nat) (l0 : List ByteArray) (A1 : Option Addr) (c1 : Nat) (l1 : List ByteArray) (w : World) (hr0 : Kd.C Kd.string w A0 l0.length l0) (hc0 : l0.length ≤ c0) (hr1 : Kd.C Kd.string w A1 l1.length l1) (hc1 : l1.length ≤ c1) :
    Calls Try.prog 32 #[.slice A0 l0.length c0, .slice A1 l1.length c1] w fun e w' => e = .returned (.bool (eqB l0 l1)) ∧ Below w.heap.size w w' := by
  have hf : limbeckref01_Same.f (2 * l0.length + 2) l0 l1 = some (eqB l0 l1) := by
    unfold limbeckref01_Same.f
    by_cases h : l0.length = l1.length
    · rw [if_pos (by omega)]
      simpa using rsame_l0 l0 l1 h hr0.2.1 l0.length 0 (2 * l0.length + 2) (by omega) (by omega)
    · rw [if_neg (by omega), eqB_false (fun e => h (by rw [e]))]
  exact (limbeckref01_Same.calls _ A0 c0 l0 A1 c1 l1 _ w hr0 hc0 hr1 hc1 hf).mono fun e w' ⟨he, hd⟩ => ⟨he, hd.below⟩

def RSame (x : S26) : Prop := ∀ (y : S26) (w : World) (A3 : Option Addr) (c3 : Nat) (A4 : Option Addr) (c4 : Nat) (B3 : Option Addr) (d3 : Nat) (B4 : Option Addr) (d4 : Nat) (_ : x.f3.length ≤ c3) (_ : Kd.string.C w A3 x.f3.length x.f3) (_ : x.f4.length ≤ c4) (_ : k26.C w A4 x.f4.length x.f4) (_ : y.f3.length ≤ d3) (_ : Kd.string.C w B3 y.f3.length y.f3) (_ : y.f4.length ≤ d4) (_ : k26.C w B4 y.f4.length y.f4),
    Calls Try.prog 38 #[.agg #[.int .i64 x.f0, .int .i64 x.f1, .string x.f2, .slice A3 x.f3.length c3, .slice A4 x.f4.length c4], .agg #[.int .i64 y.f0, .int .i64 y.f1, .string y.f2, .slice B3 y.f3.length d3, .slice B4 y.f4.length d4]] w fun e w' => e = .returned (.bool (eqB x y)) ∧ Below w.heap.size w w'

set_option maxRecDepth 100000 in
set_option maxHeartbeats 2000000 in
theorem rsame_calls (x : S26) : RSame x := by
  induction x using S26.ind with
  | h k n nm ls ar ih =>
  intro y w A3 c3 A4 c4 B3 d3 B4 d4 l3 g3 l4 g4 m3 f3 m4 f4
  obtain ⟨k', n', nm', ls', ar'⟩ := y
  dsimp only at l3 g3 l4 g4 m3 f3 m4 f4 ⊢
  have HI := Aside0.mk (s26_iff ⟨k, n, nm, ls, ar⟩ ⟨k', n', nm', ls', ar'⟩)
  have HE := Aside0.mk (fun (W : World) (hb : Below w.heap.size w W) => rsameS_calls A3 c3 ls B3 d3 ls' W (Kd.C_below g3 hb) l3 (Kd.C_below f3 hb) m3)
  have HX := Aside0.mk g4
  have HY := Aside0.mk f4
  have HIH := Aside0.mk ih
  have hlx := g4.2.1
  have hly := f4.2.1
  clear ih l3 g3 l4 g4 m3 f3 m4 f4
  have H2 := Aside0.mk (fun o o' => below_alloc (below_alloc (Below.refl w.heap.size w) o) o')
  by_cases h0 : k = k' ∧ n = n' ∧ nm = nm'
  · obtain ⟨h0, h1, h2⟩ := h0
    have h0' : (k != k') = false := bne_eq_false_iff_eq.2 h0
    have h1' : (n != n') = false := bne_eq_false_iff_eq.2 h1
    have h2' : (nm.toList == nm'.toList) = true := by rw [h2]; simp
    have H0 := Aside0.mk (And.intro h0 (And.intro h1 h2))
    clear h0 h1 h2
    have HXY := Aside0.mk (show ∀ b1 b2, eqB ls ls' = b1 → eqB ar ar' = b2 → eqB (⟨k, n, nm, ls, ar⟩ : S26) ⟨k', n', nm', ls', ar'⟩ = (b1 && b2) from by
      rintro b1 b2 rfl rfl
      rw [Bool.eq_iff_iff, Bool.and_eq_true, eqB_iff, eqB_iff, eqB_iff, HI.out]
      exact ⟨fun e => e.2.2.2, fun e => ⟨H0.out.1, H0.out.2.1, H0.out.2.2, e⟩⟩)
    obtain ⟨b1, hb1⟩ : ∃ b, eqB ls ls' = b := ⟨_, rfl⟩
    have HB1 := Aside0.mk hb1
    clear hb1
    cases b1 with
    | true =>
      by_cases hl : ar.length = ar'.length
      · have hl' : (((ar.length : Int)) != (ar'.length : Int)) = false := by rw [bne_eq_false_iff_eq]; omega
        have HL := Aside0.mk hl
        clear hl
        go_enter Try.func38, Try.ntmps38
        go_wp2_with (go_at_call 32; refine (HE.out _ (H2.out _ _)).mono ?_; rw [HB1.out]; rintro e w1 ⟨rfl, hbw⟩; obtain ⟨hcell, hfroz⟩ := bcell hbw; have HW1 := Aside0.mk hbw; have hz1 : w.heap.size + 1 < w1.heap.size := (by have h_ := hbw.size; simp only [World.size_alloc] at h_; omega); have hz0 : w.heap.size < w1.heap.size := Nat.lt_of_succ_lt hz1; clear hbw)
        go_loopg [5] ar.length (fun gk i wr => ∃ q : Nat, i = .int .i64 q ∧ Aside0 (gk + q = ar.length) ∧ Aside0 (ar.take q = ar'.take q) ∧ Aside0 (Below w1.heap.size w1 wr))
        case atStart => exact ⟨0, rfl, ⟨rfl⟩, ⟨rfl⟩, ⟨Below.refl _ _⟩⟩
        case round =>
          obtain ⟨q, rfl, HK, HQ, HB⟩ := hrel
          obtain ⟨hcellb, hfrozb⟩ := bcell HB.out
          have hz2 : w1.heap.size ≤ wr.heap.size := HB.out.size
          have hz3 : w.heap.size + 1 < wr.heap.size := Nat.lt_of_lt_of_le hz1 hz2
          have hz4 : w.heap.size < wr.heap.size := Nat.lt_of_succ_lt hz3
          have HBW := Aside0.mk (((H2.out _ _).trans (HW1.out.mono (by simp; omega))).trans (HB.out.mono (by omega)))
          by_cases hlt : q < ar.length
          · have hltZ : ((q : Int) < (ar.length : Int)) := by omega
            have hlt2 : q < ar'.length := by have := HL.out; omega
            have hltZ2 : ((q : Int) < (ar'.length : Int)) := by omega
            obtain ⟨ad, E3, e3, E4, e4, e, h0, h1, h2, h3, h4, l3, g3, l4, g4⟩ := el26 (Kd.C_below HX.out HBW.out) q hlt
            cases e
            obtain ⟨bd, F3, o3, F4, o4, e, q0, q1, q2, q3, q4, m3, f3, m4, f4⟩ := el26 (Kd.C_below HY.out HBW.out) q hlt2
            cases e
            have HIX := Aside0.mk (show ∀ b, eqB ar[q] ar'[q] = b → (b = true → ar.take (q + 1) = ar'.take (q + 1)) ∧ (b = false → eqB ar ar' = false) from by
              intro b hb
              refine ⟨fun e => ?_, fun e => eqB_false (fun e2 => ?_)⟩
              · subst e
                rw [List.take_succ_eq_append_getElem hlt, List.take_succ_eq_append_getElem hlt2, HQ.out, eqB_iff.1 hb]
              · subst e
                have : ar[q] = ar'[q] := by simp only [e2]
                rw [this, eqB_self] at hb
                cases hb)
            have HC := Aside0.mk (HIH.out ar[q] (List.getElem_mem hlt) ar'[q] wr.drew E3 e3 E4 e4 F3 o3 F4 o4 l3 (Kd.C_drew g3) l4 (Kd.C_drew g4) m3 (Kd.C_drew f3) m4 (Kd.C_drew f4))
            have HLT := Aside0.mk hlt
            generalize ar[q] = x at *
            generalize ar'[q] = y at *
            clear l3 g3 l4 g4 m3 f3 m4 f4 hlt hlt2
            obtain ⟨b, hb⟩ : ∃ b, eqB x y = b := ⟨_, rfl⟩
            have HBV := Aside0.mk hb
            clear hb
            cases b with
            | true =>
              go_wp2_with fail
              go_still_tail 10, (by kernel_rfl)
              change wpList _ _ _ _ _ wr.drew
              go_wp2_with (go_at_call 38; refine HC.out.mono ?_; rw [HBV.out]; rintro e w' ⟨rfl, hb'⟩)
              go_roundg (gk - 1)
              case measure => have := HK.out; have := HLT.out; omega
              case rel => exact ⟨q + 1, by go_num, ⟨by have := HK.out; have := HLT.out; omega⟩, ⟨(HIX.out _ HBV.out).1 rfl⟩, ⟨HB.out.trans (((below_drew (Below.refl wr.heap.size wr)).trans (show Below wr.heap.size wr.drew w' from hb')).mono (by omega))⟩⟩
            | false =>
              go_wp2_with fail
              go_still_tail 10, (by kernel_rfl)
              change wpList _ _ _ _ _ wr.drew
              go_wp2_with (go_at_call 38; refine HC.out.mono ?_; rw [HBV.out]; rintro e w' ⟨rfl, hb'⟩)
              go_ret
              exact ⟨ret_bool (by rw [HXY.out _ _ HB1.out ((HIX.out _ HBV.out).2 rfl)]; rfl), HBW.out.trans (((below_drew (Below.refl wr.heap.size wr)).trans (show Below wr.heap.size wr.drew w' from hb')).mono (by omega))⟩
          · have hltz : ¬ (q : Int) < (ar.length : Int) := by omega
            have HX2 := Aside0.mk (show eqB ar ar' = true from eqB_iff.2 (by
              have h1 : q = ar.length := by have := HK.out; omega
              have h2 := HQ.out
              rw [h1, List.take_length, HL.out, List.take_length] at h2
              exact h2))
            go_wp2
            go_ret
            exact ⟨ret_bool (by rw [HXY.out _ _ HB1.out HX2.out]; rfl), HBW.out⟩
      · have hl' : (((ar.length : Int)) != (ar'.length : Int)) = true := by rw [bne_iff_ne]; omega
        have HX2 := Aside0.mk (show eqB ar ar' = false from eqB_false (fun e => hl (by rw [e])))
        clear hl
        go_enter Try.func38, Try.ntmps38
        go_wp2_with (go_at_call 32; refine (HE.out _ (H2.out _ _)).mono ?_; rw [HB1.out]; rintro e w1 ⟨rfl, hbw⟩; obtain ⟨hcell, hfroz⟩ := bcell hbw; have HW1 := Aside0.mk hbw; have hz1 : w.heap.size + 1 < w1.heap.size := (by have h_ := hbw.size; simp only [World.size_alloc] at h_; omega); have hz0 : w.heap.size < w1.heap.size := Nat.lt_of_succ_lt hz1; clear hbw)
        go_ret
        exact ⟨ret_bool (by rw [HXY.out _ _ HB1.out HX2.out]; rfl), ((H2.out _ _).trans (HW1.out.mono (by simp; omega)))⟩
    | false =>
      have HX2 := Aside0.mk (HXY.out _ _ HB1.out rfl)
      go_enter Try.func38, Try.ntmps38
      go_wp2_with (go_at_call 32; refine (HE.out _ (H2.out _ _)).mono ?_; rw [HB1.out]; rintro e w1 ⟨rfl, hbw⟩; obtain ⟨hcell, hfroz⟩ := bcell hbw; have HW1 := Aside0.mk hbw; have hz1 : w.heap.size + 1 < w1.heap.size := (by have h_ := hbw.size; simp only [World.size_alloc] at h_; omega); have hz0 : w.heap.size < w1.heap.size := Nat.lt_of_succ_lt hz1; clear hbw)
      go_ret
      exact ⟨ret_bool (by rw [HX2.out]; rfl), ((H2.out _ _).trans (HW1.out.mono (by simp; omega)))⟩
  · have HX2 := Aside0.mk (show eqB (⟨k, n, nm, ls, ar⟩ : S26) ⟨k', n', nm', ls', ar'⟩ = false from eqB_false (fun e => h0 ⟨(HI.out.1 e).1, (HI.out.1 e).2.1, (HI.out.1 e).2.2.1⟩))
    by_cases h0a : k = k'
    · have h0' : (k != k') = false := bne_eq_false_iff_eq.2 h0a
      by_cases h1 : n = n'
      · have h1' : (n != n') = false := bne_eq_false_iff_eq.2 h1
        have h2' : (nm.toList == nm'.toList) = false := beq_eq_false_iff_ne.2 (fun e => h0 ⟨h0a, h1, bytes_ext e⟩)
        clear h0 h0a h1
        go_enter Try.func38, Try.ntmps38
        go_wp2
        go_ret
        exact ⟨ret_bool HX2.out.symm, H2.out _ _⟩
      · have h1' : (n != n') = true := bne_iff_ne.2 h1
        clear h0 h0a h1
        go_enter Try.func38, Try.ntmps38
        go_wp2
        go_ret
        exact ⟨ret_bool HX2.out.symm, H2.out _ _⟩
    · have h0' : (k != k') = true := bne_iff_ne.2 h0a
      clear h0 h0a
      go_enter Try.func38, Try.ntmps38
      go_wp2
      go_ret
      exact ⟨ret_bool HX2.out.symm, H2.out _ _⟩
end Go.Proofs.Ytkeeknlfommieaa.PF
namespace Go.Proofs.Ytkeeknlfommieaa.PF
open Go.RowKit Go.Shelf Go.Proofs.YtkeeknlfommieaaW.PrintWords Go.Proofs.YtkeeknlfommieaaW.PrintLast Go.Proofs.YtkeeknlfommieaaW.PrintMore

def SomeInt (w : World) (e : Ending) (w' : World) : Prop := (∃ r : Int, e = .returned (.int .i64 r)) ∧ Below w.heap.size w w'
set_option maxRecDepth 100000 in
set_option maxHeartbeats 2000000 in
theorem much_calls (t : S26) : ∀ (w : World) (A3 : Option Addr) (c3 : Nat) (A4 : Option Addr) (c4 : Nat) (_ : t.f3.length ≤ c3) (_ : Kd.string.C w A3 t.f3.length t.f3) (_ : t.f4.length ≤ c4) (_ : k26.C w A4 t.f4.length t.f4),
    Calls Try.prog 24 #[.agg #[.int .i64 t.f0, .int .i64 t.f1, .string t.f2, .slice A3 t.f3.length c3, .slice A4 t.f4.length c4]] w (SomeInt w) := by
  induction t using S26.ind with
  | h k0 n nm ls ar ih =>
  intro w A3 c3 A4 c4 l3 g3 l4 g4
  dsimp only at l3 g3 l4 g4 ⊢
  have HG3 := Aside0.mk g3
  have HG4 := Aside0.mk g4
  have HIH := Aside0.mk ih
  have hl3 := g3.2.1
  have hl4 := g4.2.1
  clear ih l3 g3 l4 g4
  go_enter Try.func24, Try.ntmps24
  go_wp2_with fail
  go_loopg [3, 4] (1000 + ls.length) (fun gk v i wr => ∃ (r : Int) (k : Nat), v = .int .i64 r ∧ i = .int .i64 k ∧ Aside0 (gk + k = 1000 + ls.length ∧ k ≤ 1000) ∧ wr = w.alloc (.cells #[.int .i64 k0, .int .i64 n, .string nm, .slice A3 ls.length c3, .slice A4 ar.length c4] 26))
  case atStart => exact ⟨_, 0, rfl, rfl, ⟨by omega⟩, rfl⟩
  case round =>
    obtain ⟨r, k, rfl, rfl, HK, rfl⟩ := hrel
    by_cases hlt : k < ls.length ∧ k < 1000
    · obtain ⟨hlt, hk⟩ := hlt
      have hltZ : ((k : Int) < (ls.length : Int)) := by omega
      have hkZ : ((k : Int) < 1000) := by omega
      obtain ⟨ad, e, h0⟩ := elS (Kd.C_below HG3.out (below_alloc (Below.refl _ _) (.cells #[.int .i64 k0, .int .i64 n, .string nm, .slice A3 ls.length c3, .slice A4 ar.length c4] 26))) k hlt
      cases e
      generalize ls[k] = s at h0
      have HLT := Aside0.mk hlt
      clear hlt
      go_wp2
      go_roundg (gk - 1)
      case measure => have := HK.out; have := HLT.out; omega
      case rel => exact ⟨_, k + 1, rfl, by go_num, ⟨by have := HK.out; have := HLT.out; omega⟩, rfl⟩
    · have HD := Aside0.mk (show ∀ b : Bool, (decide ((k : Int) < (ls.length : Int)) && decide ((k : Int) < 1000)) = b → b = false from by
        rintro b rfl
        rw [Bool.and_eq_false_iff]
        simp only [decide_eq_false_iff_not]
        omega)
      by_cases h1 : (k : Int) < (ls.length : Int)
      · have h2 : ¬ (k : Int) < 1000 := by omega
        clear hlt
        go_wp2
        go_loopg [3, 5] ar.length (fun gk v i wr => ∃ (r : Int) (k : Nat), v = .int .i64 r ∧ i = .int .i64 k ∧ Aside0 (gk + k = ar.length) ∧ Aside0 (Below (w.heap.size + 1) (w.alloc (.cells #[.int .i64 k0, .int .i64 n, .string nm, .slice A3 ls.length c3, .slice A4 ar.length c4] 26)) wr))
        case atStart => exact ⟨_, 0, rfl, rfl, ⟨by omega⟩, ⟨Below.refl _ _⟩⟩
        case round =>
          clear HK
          obtain ⟨r, k, rfl, rfl, HK, HB⟩ := hrel
          have hz : w.heap.size < wr.heap.size := by have h_ := HB.out.size; simp only [World.size_alloc] at h_; omega
          obtain ⟨hcell, hfroz⟩ := bcell (W := w.alloc (.cells #[.int .i64 k0, .int .i64 n, .string nm, .slice A3 ls.length c3, .slice A4 ar.length c4] 26)) (by simpa only [World.size_alloc] using HB.out)
          have HBW := Aside0.mk ((below_alloc (Below.refl w.heap.size w) (.cells #[.int .i64 k0, .int .i64 n, .string nm, .slice A3 ls.length c3, .slice A4 ar.length c4] 26)).trans (HB.out.mono (by omega)))
          by_cases hlt : k < ar.length
          · have hltZ : ((k : Int) < (ar.length : Int)) := by omega
            by_cases hr : r < 3000
            · obtain ⟨ad, B3, d3, B4, d4, e, h0, h1, h2, h3, h4, l3, g3, l4, g4⟩ := el26 (Kd.C_below HG4.out HBW.out) k hlt
              cases e
              have HC := Aside0.mk (HIH.out ar[k] (List.getElem_mem hlt) wr B3 d3 B4 d4 l3 g3 l4 g4)
              generalize ar[k] = x at *
              have HLT := Aside0.mk hlt
              clear l3 g3 l4 g4 hlt
              go_wp2_with (go_at_call 24; refine HC.out.mono ?_; rintro e w1 ⟨⟨q, rfl⟩, hb1⟩)
              go_roundg (gk - 1)
              case measure => have := HK.out; have := HLT.out; omega
              case rel => exact ⟨_, k + 1, rfl, by go_num, ⟨by have := HK.out; have := HLT.out; omega⟩, ⟨HB.out.trans (hb1.mono (by omega))⟩⟩
            · go_wp2
              go_ret
              exact ⟨⟨_, rfl⟩, HBW.out⟩
          · have hltz : ¬ (k : Int) < (ar.length : Int) := by omega
            go_wp2
            go_ret
            exact ⟨⟨_, rfl⟩, HBW.out⟩
      · clear hlt
        go_wp2
        go_loopg [3, 5] ar.length (fun gk v i wr => ∃ (r : Int) (k : Nat), v = .int .i64 r ∧ i = .int .i64 k ∧ Aside0 (gk + k = ar.length) ∧ Aside0 (Below (w.heap.size + 1) (w.alloc (.cells #[.int .i64 k0, .int .i64 n, .string nm, .slice A3 ls.length c3, .slice A4 ar.length c4] 26)) wr))
        case atStart => exact ⟨_, 0, rfl, rfl, ⟨by omega⟩, ⟨Below.refl _ _⟩⟩
        case round =>
          clear HK
          obtain ⟨r, k, rfl, rfl, HK, HB⟩ := hrel
          have hz : w.heap.size < wr.heap.size := by have h_ := HB.out.size; simp only [World.size_alloc] at h_; omega
          obtain ⟨hcell, hfroz⟩ := bcell (W := w.alloc (.cells #[.int .i64 k0, .int .i64 n, .string nm, .slice A3 ls.length c3, .slice A4 ar.length c4] 26)) (by simpa only [World.size_alloc] using HB.out)
          have HBW := Aside0.mk ((below_alloc (Below.refl w.heap.size w) (.cells #[.int .i64 k0, .int .i64 n, .string nm, .slice A3 ls.length c3, .slice A4 ar.length c4] 26)).trans (HB.out.mono (by omega)))
          by_cases hlt : k < ar.length
          · have hltZ : ((k : Int) < (ar.length : Int)) := by omega
            by_cases hr : r < 3000
            · obtain ⟨ad, B3, d3, B4, d4, e, h0, h1, h2, h3, h4, l3, g3, l4, g4⟩ := el26 (Kd.C_below HG4.out HBW.out) k hlt
              cases e
              have HC := Aside0.mk (HIH.out ar[k] (List.getElem_mem hlt) wr B3 d3 B4 d4 l3 g3 l4 g4)
              generalize ar[k] = x at *
              have HLT := Aside0.mk hlt
              clear l3 g3 l4 g4 hlt
              go_wp2_with (go_at_call 24; refine HC.out.mono ?_; rintro e w1 ⟨⟨q, rfl⟩, hb1⟩)
              go_roundg (gk - 1)
              case measure => have := HK.out; have := HLT.out; omega
              case rel => exact ⟨_, k + 1, rfl, by go_num, ⟨by have := HK.out; have := HLT.out; omega⟩, ⟨HB.out.trans (hb1.mono (by omega))⟩⟩
            · go_wp2
              go_ret
              exact ⟨⟨_, rfl⟩, HBW.out⟩
          · have hltz : ¬ (k : Int) < (ar.length : Int) := by omega
            go_wp2
            go_ret
            exact ⟨⟨_, rfl⟩, HBW.out⟩
end Go.Proofs.Ytkeeknlfommieaa.PF
namespace Go.Proofs.Ytkeeknlfommieaa.PF
open Go.RowKit Go.Shelf Go.Proofs.YtkeeknlfommieaaW.PrintWords Go.Proofs.YtkeeknlfommieaaW.PrintLast Go.Proofs.YtkeeknlfommieaaW.PrintMore

def FewP (n m : Nat) (w : World) (e : Ending) (w' : World) : Prop := (∃ b : Bool, e = .returned (.bool b) ∧ (b = true → n ≤ 60 ∧ m ≤ 60)) ∧ Below w.heap.size w w'
set_option maxRecDepth 100000 in
set_option maxHeartbeats 2000000 in
theorem few_calls (A B : Option Addr) (c d : Nat) (ls : List ByteArray) (ar : List S26) (w : World) (g3 : Kd.string.C w A ls.length ls) (g4 : k26.C w B ar.length ar) :
    Calls Try.prog 39 #[.slice A ls.length c, .slice B ar.length d] w (FewP ls.length ar.length w) := by
  have HG4 := Aside0.mk g4
  have hl3 := g3.2.1
  have hl4 := g4.2.1
  clear g3 g4
  go_enter Try.func39, Try.ntmps39
  go_wp2_with fail
  go_loopg [5] (ar.length + 100) (fun gk i wr => ∃ (k : Nat), i = .int .i64 k ∧ Aside0 (gk + k = ar.length + 100 ∧ k ≤ 100) ∧ Aside0 (Below w.heap.size w wr))
  case atStart => exact ⟨0, rfl, ⟨by omega⟩, ⟨Below.refl _ _⟩⟩
  case round =>
    obtain ⟨k, rfl, HK, HB⟩ := hrel
    by_cases hlt : k < ar.length ∧ k < 100
    · obtain ⟨hlt, hk⟩ := hlt
      have hltZ : ((k : Int) < (ar.length : Int)) := by omega
      have hkZ : ((k : Int) < 100) := by omega
      obtain ⟨ad, B3, d3, B4, d4, e, h0, h1, h2, h3, h4, l3, g3, l4, g4⟩ := el26 (Kd.C_below HG4.out HB.out) k hlt
      cases e
      have HC := Aside0.mk (much_calls ar[k] wr B3 d3 B4 d4 l3 g3 l4 g4)
      generalize ar[k] = x at *
      have HLT := Aside0.mk hlt
      clear l3 g3 l4 g4 hlt
      go_wp2_with fail
      refine HC.out.mono ?_
      rintro e w1 ⟨⟨q, rfl⟩, hb1⟩
      have HB1 := Aside0.mk (HB.out.trans (hb1.mono HB.out.size))
      clear hb1
      rcases Int.lt_or_le 100 q with hq | hq
      · have hq' : q > 100 := hq
        go_wp2
        go_ret
        exact ⟨⟨false, rfl, fun h => by cases h⟩, HB1.out⟩
      · have hq' : ¬ q > 100 := by omega
        go_wp2
        go_roundg (gk - 1)
        case measure => have := HK.out; have := HLT.out; omega
        case rel => exact ⟨k + 1, by go_num, ⟨by have := HK.out; have := HLT.out; omega⟩, HB1⟩
    · have HD := Aside0.mk (show ∀ b : Bool, (decide ((k : Int) < (ar.length : Int)) && decide ((k : Int) < 100)) = b → b = false from by
        rintro b rfl
        rw [Bool.and_eq_false_iff]
        simp only [decide_eq_false_iff_not]
        omega)
      have fin : ∀ b : Bool, b = (decide ((ls.length : Int) ≤ 60) && decide ((ar.length : Int) ≤ 60)) → (b = true → ls.length ≤ 60 ∧ ar.length ≤ 60) := by
        rintro b rfl h
        simp at h
        omega
      have FIN := Aside0.mk fin
      clear fin
      by_cases h1 : (k : Int) < (ar.length : Int)
      · have h2 : ¬ (k : Int) < 100 := by omega
        clear hlt
        by_cases h3 : (ls.length : Int) ≤ 60
        · go_wp2
          go_ret
          exact ⟨⟨_, rfl, FIN.out _ (by simp [h3])⟩, HB.out⟩
        · go_wp2
          go_ret
          exact ⟨⟨false, rfl, fun h => by cases h⟩, HB.out⟩
      · clear hlt
        by_cases h3 : (ls.length : Int) ≤ 60
        · go_wp2
          go_ret
          exact ⟨⟨_, rfl, FIN.out _ (by simp [h3])⟩, HB.out⟩
        · go_wp2
          go_ret
          exact ⟨⟨false, rfl, fun h => by cases h⟩, HB.out⟩
end Go.Proofs.Ytkeeknlfommieaa.PF
