/- ty.walk, ty.nodes: the iterator over a type's nodes: all of them, in order, for every loop body that keeps what lay ahead and what the walk itself has boxed. -/
import Derived.Test.YtkeeknlfommieaaB4
import Derived.RangeFuncNested
import Derived.RangeFuncBound
import Derived.RangeFuncCalls
import Derived.RangeFuncLeaves
import Derived.RangeFuncBox
import Derived.Shelf.Abstract
import Derived.Shelf.RegionOpen
import Derived.WalkKit
import Derived.OwnWalkIn
import Derived.TacticsInMore
import Derived.LoopNIn
import Derived.LoopIn
namespace Go.Proofs.Ytkeeknlfommieaa.PF
open Go.RowKit Go.Shelf Go.Proofs.YtkeeknlfommieaaW.PrintWords Go.Proofs.YtkeeknlfommieaaW.PrintLast Go.Proofs.YtkeeknlfommieaaW.PrintMore
attribute [local go_sem] Oper.semAt_some

theorem el26F {W : World} {ok : Nat → Prop} {A : Option Addr} {xs : List S26} (h : Kd.F k26 W ok A xs.length xs) (i : Nat) (hi : i < xs.length) :
    ∃ ad A3 c3 A4 c4, A = some ad ∧ W.cell? (ad.add (i * 5)) = some (.int .i64 xs[i].f0) ∧ W.cell? ⟨(ad.add (i * 5)).block, (ad.add (i * 5)).off + 1, none⟩ = some (.int .i64 xs[i].f1) ∧ W.cell? ⟨(ad.add (i * 5)).block, (ad.add (i * 5)).off + 2, none⟩ = some (.string xs[i].f2) ∧ W.cell? ⟨(ad.add (i * 5)).block, (ad.add (i * 5)).off + 3, none⟩ = some (.slice A3 xs[i].f3.length c3) ∧ W.cell? ⟨(ad.add (i * 5)).block, (ad.add (i * 5)).off + 4, none⟩ = some (.slice A4 xs[i].f4.length c4)
      ∧ xs[i].f3.length ≤ c3 ∧ Kd.F Kd.string W ok A3 xs[i].f3.length xs[i].f3 ∧ xs[i].f4.length ≤ c4 ∧ Kd.F k26 W ok A4 xs[i].f4.length xs[i].f4 := by
  obtain ⟨ad, cs, e, hcl, hK, hc, _⟩ := Kd.F_get h z26 (i : Int) (by omega) (by omega)
  rw [show xs.getD (i : Int).toNat z26 = xs[i] from rd_getElem xs i hi] at hK
  obtain ⟨A3, c3, A4, c4, rfl, l3, g3, l4, g4⟩ := k26_openF hK
  have hc' : ∀ j u, ([.int .i64 xs[i].f0, .int .i64 xs[i].f1, .string xs[i].f2, .slice A3 xs[i].f3.length c3, .slice A4 xs[i].f4.length c4] : List Value)[j]? = some u → W.cell? (ad.add (i * 5 + j)) = some u := fun j u hu => hc j u hu
  exact ⟨ad, A3, c3, A4, c4, e, hc' 0 _ rfl, by rw [← add_field _ _ 1 (by omega)]; exact hc' 1 _ rfl, by rw [← add_field _ _ 2 (by omega)]; exact hc' 2 _ rfl, by rw [← add_field _ _ 3 (by omega)]; exact hc' 3 _ rfl, by rw [← add_field _ _ 4 (by omega)]; exact hc' 4 _ rfl, l3, g3, l4, g4⟩

/-- A type as it is handed to a loop's body: what it reads as, and where its lists lie. -/
structure NV where
  x : S26
  A3 : Option Addr
  c3 : Nat
  A4 : Option Addr
  c4 : Nat
def NV.enc (v : NV) : Value := .agg #[.int .i64 v.x.f0, .int .i64 v.x.f1, .string v.x.f2, .slice v.A3 v.x.f3.length v.c3, .slice v.A4 v.x.f4.length v.c4]
mutual
def preT : S26 → List S26
  | ⟨k, n, nm, ls, ar⟩ => ⟨k, n, nm, ls, ar⟩ :: preL ar
def preL : List S26 → List S26
  | [] => []
  | x :: l => preT x ++ preL l
end
theorem preL_app (l m : List S26) : preL (l ++ m) = preL l ++ preL m := by
  induction l with
  | nil => rfl
  | cons x l ih => rw [List.cons_append, preL, preL, ih, List.append_assoc]
theorem preL_take (l : List S26) (k : Nat) (h : k < l.length) : preL (l.take (k + 1)) = preL (l.take k) ++ preT l[k] := by
  rw [List.take_succ_eq_append_getElem h, preL_app]
  simp [preL]

/-- What a round keeps: all that lay below n₀, and each box of a type. -/
structure KT (n₀ : Nat) (W W' : World) : Prop where
  low : Below n₀ W W'
  typ : ∀ (b : Nat) (c : Array Value), W.heap[b]? = some (Obj.cells c 26 (0, 0)) → W'.heap[b]? = some (Obj.cells c 26 (0, 0))
theorem KT.refl (n₀ : Nat) (W : World) : KT n₀ W W := ⟨Below.refl _ _, fun _ _ h => h⟩
theorem KT.trans {n₀ : Nat} {A B C : World} (h : KT n₀ A B) (k : KT n₀ B C) : KT n₀ A C := ⟨h.low.trans k.low, fun b c hb => k.typ b c (h.typ b c hb)⟩
theorem KT.alloc {n₀ : Nat} {A B : World} (h : KT n₀ A B) (hn : n₀ ≤ B.heap.size) (o : Obj) : KT n₀ A (B.alloc o) := ⟨h.low.alloc hn o, fun b c hb => blk_alloc (h.typ b c hb) o⟩
theorem kt_b {n₀ : Nat} {w : World} (hn : n₀ ≤ w.heap.size) (W : World) (l : Nat) (o o' : Obj) (hl : w.heap.size ≤ l) (h : W.heap[l]? = some o) (hc : o.isCells = false) (hw : o.isWalk = false) : KT n₀ W (W.putObj l o') :=
  ⟨belowK_b hn W l o o' hl h hc hw, fun b c hb => by
    have hne : l ≠ b := by rintro rfl; rw [h] at hb; cases hb; simp [Obj.isCells] at hc
    simp only [World.putObj]
    rw [Array.getElem?_setIfInBounds_ne hne]
    exact hb⟩

theorem wide_room (k : Nat) : Fence.wide.room k := fun d h => by cases h
/-- At the wide fence the figures are all one. -/
theorem yield_any {m : Nat} (m' : Nat) {P : Program} {l : Nat} {args : Array Value} {W : World} {R : Ending → World → Prop} (h : YieldAt Fence.wide m P l args W R) : YieldAt Fence.wide m' P l args W R := by
  obtain ⟨fn, tmps, assign, body, hy, hR⟩ := h
  exact ⟨fn, tmps, assign, body, hy, hR.1, fun c cs _ => hR.2 c cs (wide_room _)⟩

set_option maxRecDepth 100000 in
set_option maxHeartbeats 2000000 in
theorem walk_in (l n₀ N : Nat) (J Jx : List NV → World → Prop) (hJa : ∀ pre W o, J pre W → J pre (World.alloc W o))
    (hY : ∀ m pre x W, J pre W → pre.length < N → YieldAt Fence.wide m Try.prog l #[NV.enc x] W fun e W' =>
      (e = .returned (.bool true) ∧ J (pre ++ [x]) W' ∧ KT n₀ W W') ∨ (e = .returned (.bool false) ∧ Jx (pre ++ [x]) W')) (t : S26) :
    ∀ (n : Nat) (A3 : Option Addr) (c3 : Nat) (A4 : Option Addr) (c4 : Nat) (pre : List NV) (W : World), n₀ ≤ W.heap.size → Kd.F k26 W (fun k => k < n₀) A4 t.f4.length t.f4 → J pre W → pre.length + (preT t).length ≤ N →
      CallsIn Fence.wide n Try.prog 101 #[.agg #[.int .i64 t.f0, .int .i64 t.f1, .string t.f2, .slice A3 t.f3.length c3, .slice A4 t.f4.length c4], .func (.yield l) #[] #[]] W fun e W' =>
        (e = .returned (.bool true) ∧ (∃ ys : List NV, ys.map NV.x = preT t ∧ J (pre ++ ys) W') ∧ KT n₀ W W') ∨ (e = .returned (.bool false) ∧ ∃ q : List NV, q.map NV.x <+: preT t ∧ Jx (pre ++ q) W') := by
  induction t using S26.ind with
  | h k nn nm ls ar ih =>
  intro n A3 c3 A4 c4 pre W hn hF hJ hN
  dsimp only at hF ⊢
  have hNl : pre.length < N := by rw [preT] at hN; simp at hN; omega
  have hJ1 := hJa _ _ (Obj.cells #[.int .i64 k, .int .i64 nn, .string nm, .slice A3 ls.length c3, .slice A4 ar.length c4] 26) hJ
  obtain ⟨fn, tmps, assign, body, hy, hR⟩ := hY (n - 1) pre ⟨⟨k, nn, nm, ls, ar⟩, A3, c3, A4, c4⟩ _ hJ1 hNl
  dsimp only [NV.enc] at hy
  refine callsIn_of_wp Try.func101 rfl trivial ?_ rfl
  simp only [Try.ntmps101, List.size_toArray, List.length_cons, List.length_nil, Nat.reduceAdd, Nat.reduceSub, Array.replicate_succ, Array.replicate_zero, List.push_toArray, List.append_toArray, List.nil_append, List.cons_append]
  have HJA := Aside0.mk hJa
  have HY := Aside0.mk hY
  have HIH := Aside0.mk ih
  have HN := Aside0.mk hN
  clear hJa hY ih hJ hJ1 hN hNl
  gi_wp2
  refine ⟨fun h => (by cases h), ?_⟩
  refine hR.mono ?_
  clear hR
  rintro e W1 (⟨rfl, hJ2, hk⟩ | ⟨rfl, hx⟩)
  · have HB := Aside0.mk (hk.typ W.heap.size _ (blk_new W _))
    have HK := Aside0.mk (((KT.refl n₀ W).alloc hn (Obj.cells #[.int .i64 k, .int .i64 nn, .string nm, .slice A3 ls.length c3, .slice A4 ar.length c4] 26)).trans hk)
    have HJ := Aside0.mk hJ2
    have hc4 : W1.cell? ⟨W.heap.size, 4, none⟩ = some (.slice A4 ar.length c4) := blk_cell HB.out 4
    have HF := Aside0.mk hF
    have hlen := Kd.F_max hF
    have hn1 : n₀ ≤ W1.heap.size := Nat.le_trans hn HK.out.low.size
    clear hk hJ2 hF
    gi_wp2
    gi_loopw [14] (fun i wr => ∃ (kk : Nat) (ys : List NV), kk ≤ ar.length ∧ i = .int .i64 kk ∧ Aside0 (ys.map NV.x = (⟨k, nn, nm, ls, ar⟩ : S26) :: preL (ar.take kk)) ∧ Aside0 (J (pre ++ ys) wr) ∧ Aside0 (KT n₀ W wr)) (fun i _ => ar.length - (intOf i).toNat)
    case atStart => exact ⟨0, [⟨⟨k, nn, nm, ls, ar⟩, A3, c3, A4, c4⟩], Nat.zero_le _, rfl, ⟨by simp [preL]⟩, HJ, HK⟩
    case round =>
      obtain ⟨kk, ys, hkk, rfl, HM, HJ2, HK2⟩ := hrel
      clear hc4
      by_cases hlt : kk < ar.length
      · have hltZ : ((kk : Int) < (ar.length : Int)) := by omega
        obtain ⟨ad, B3, d3, B4, d4, e, h0, h1, h2, h3, h4, l3, g3, l4, g4⟩ := el26F (Kd.F_step HF.out (fun b hb _ => HK2.out.low.block b hb)) kk hlt
        cases e
        have hnr : n₀ ≤ wr.heap.size := Nat.le_trans hn HK2.out.low.size
        have HC := fun m => HIH.out ar[kk] (List.getElem_mem hlt) m B3 d3 B4 d4 (pre ++ ys) (wr.alloc (.cells #[.int .i64 ar[kk].f0, .int .i64 ar[kk].f1, .string ar[kk].f2, .slice B3 ar[kk].f3.length d3, .slice B4 ar[kk].f4.length d4] 26)) (Nat.le_trans hnr (by simp)) (Kd.F_alloc g4 _) (HJA.out _ _ _ HJ2.out) (by
          have hm : (pre ++ ys).length = pre.length + (1 + (preL (ar.take kk)).length) := by have e_ := congrArg List.length HM.out; simp only [List.length_map, List.length_cons] at e_; rw [List.length_append]; omega
          have ht : (preL ar).length = (preL (ar.take kk)).length + (preT ar[kk]).length + (preL (ar.drop (kk + 1))).length := by
            conv => lhs; rw [← List.take_append_drop (kk + 1) ar, preL_app, preL_take _ _ hlt]
            simp [Nat.add_assoc]
          have := HN.out
          rw [preT, List.length_cons] at this
          omega)
        have HC' := Aside0.mk HC
        clear HC g3 g4 l3 l4
        gi_wp2_with ((try refine ⟨trivial, fun h => (by cases h), ?_⟩); gi_at_call 101; refine (HC'.out _).mono ?_; rintro e W2 (⟨rfl, ⟨zs, hz, hJz⟩, hk⟩ | ⟨rfl, q, hq, hx⟩))
        · go_roundw
          case rel => exact ⟨kk + 1, ys ++ zs, by omega, by go_num, ⟨by rw [List.map_append, HM.out, hz, preL_take _ _ hlt]; rfl⟩, ⟨by rw [← List.append_assoc]; exact hJz⟩, ⟨(HK2.out.alloc hnr _).trans hk⟩⟩
          case measure => simp [intOf]; omega
        · go_ret
          refine .inr ⟨rfl, ys ++ q, ?_, by rw [← List.append_assoc]; exact hx⟩
          rw [List.map_append, HM.out, preT]
          have ht : preL ar = preL (ar.take kk) ++ (preT ar[kk] ++ preL (ar.drop (kk + 1))) := by
            conv => lhs; rw [← List.take_append_drop (kk + 1) ar, preL_app, preL_take _ _ hlt]
            simp
          rw [ht, List.cons_append]
          obtain ⟨r, hr⟩ := hq
          exact ⟨r ++ preL (ar.drop (kk + 1)), by rw [← hr]; simp⟩
      · have hltz : ¬ (kk : Int) < (ar.length : Int) := by omega
        have HE := Aside0.mk (show kk = ar.length from by omega)
        gi_wp2
        go_ret
        refine .inl ⟨rfl, ⟨ys, ?_, HJ2.out⟩, HK2.out⟩
        rw [HM.out, HE.out, List.take_length, preT]
  · gi_wp2
    go_ret
    exact .inr ⟨rfl, [⟨⟨k, nn, nm, ls, ar⟩, A3, c3, A4, c4⟩], ⟨preL ar, by simp [preT]⟩, hx⟩

set_option maxRecDepth 100000 in
set_option maxHeartbeats 2000000 in
theorem nodes1_in (l n₀ N : Nat) (J Jx : List NV → World → Prop) (hJa : ∀ pre W o, J pre W → J pre (World.alloc W o))
    (hY : ∀ m pre x W, J pre W → pre.length < N → YieldAt Fence.wide m Try.prog l #[NV.enc x] W fun e W' =>
      (e = .returned (.bool true) ∧ J (pre ++ [x]) W' ∧ KT n₀ W W') ∨ (e = .returned (.bool false) ∧ Jx (pre ++ [x]) W')) (t : S26) (n : Nat) (Bt : Nat) (A3 : Option Addr) (c3 : Nat) (A4 : Option Addr) (c4 : Nat) (W : World)
    (hn : n₀ ≤ W.heap.size) (hB : W.heap[Bt]? = some (.cells #[.int .i64 t.f0, .int .i64 t.f1, .string t.f2, .slice A3 t.f3.length c3, .slice A4 t.f4.length c4] 26 (0, 0))) (hF : Kd.F k26 W (fun k => k < n₀) A4 t.f4.length t.f4) (h0 : J [] W) (hN : (preT t).length ≤ N) :
    CallsIn Fence.wide n Try.prog 100 #[.func (.yield l) #[] #[], .pointer (some ⟨Bt, 0, none⟩)] W fun e W' => (∃ v, e = .returned v) ∧
      ((∃ ys : List NV, ys.map NV.x = preT t ∧ J ys W') ∨ (∃ pre : List NV, pre.map NV.x <+: preT t ∧ Jx pre W')) := by
  have hw := fun m => walk_in l n₀ N J Jx hJa hY t m A3 c3 A4 c4 [] W hn hF h0 (by simpa using hN)
  have HW := Aside0.mk hw
  have hc0 := blk_cell hB 0
  have hc1 := blk_cell hB 1
  have hc2 := blk_cell hB 2
  have hc3 := blk_cell hB 3
  have hc4 := blk_cell hB 4
  simp at hc0 hc1 hc2 hc3 hc4
  clear hw hJa hY hB hF h0 hN
  refine callsIn_of_wp Try.func100 rfl trivial ?_ rfl
  simp only [Try.ntmps100, List.size_toArray, List.length_cons, List.length_nil, Nat.reduceAdd, Nat.reduceSub, Array.replicate_succ, Array.replicate_zero, List.push_toArray, List.append_toArray, List.nil_append, List.cons_append]
  gi_wp2_with ((try refine ⟨trivial, fun h => (by cases h), ?_⟩); gi_at_call 101; refine (HW.out _).mono ?_; rintro e W1 (⟨rfl, ⟨ys, hy, hJ⟩, _⟩ | ⟨rfl, q, hq, hx⟩))
  · go_end0
    exact ⟨⟨_, rfl⟩, .inl ⟨ys, hy, hJ⟩⟩
  · go_end0
    exact ⟨⟨_, rfl⟩, .inr ⟨q, hq, hx⟩⟩

/-- ty.nodes: the type is boxed; the function value captures the box. -/
theorem nodes_in (n : Nat) (v : Array Value) (hv : ∃ a b c d e, v = #[.int .i64 a, .int .i64 b, .string c, d, e]) (w : World) : CallsIn Fence.wide n Try.prog 68 #[.agg v] w fun e w' => e = .returned (.func (.func 100) #[] #[.pointer (some ⟨w.heap.size, 0, none⟩)]) ∧ w' = w.alloc (.cells v 26) := by
  obtain ⟨a, b, c, d, e, rfl⟩ := hv
  refine callsIn_of_wp Try.func68 rfl trivial ?_ rfl
  simp only [Try.ntmps68, List.size_toArray, List.length_cons, List.length_nil, Nat.reduceAdd, Nat.reduceSub, Array.replicate_succ, Array.replicate_zero, List.push_toArray, List.append_toArray, List.nil_append, List.cons_append]
  gi_wp2
  go_ret
  exact ⟨rfl, rfl⟩
theorem nodes_stops (n : Nat) (t : S26) (n₀ Bt : Nat) (A3 : Option Addr) (c3 : Nat) (A4 : Option Addr) (c4 : Nat) (w : World) (hn : n₀ ≤ w.heap.size) (hB : w.heap[Bt]? = some (.cells #[.int .i64 t.f0, .int .i64 t.f1, .string t.f2, .slice A3 t.f3.length c3, .slice A4 t.f4.length c4] 26 (0, 0))) (hF : Kd.F k26 w (fun k => k < n₀) A4 t.f4.length t.f4) :
    SeqStopsK Fence.wide n Try.prog 100 #[.pointer (some ⟨Bt, 0, none⟩)] (fun x : NV => #[NV.enc x]) (KT n₀) (fun ys => ys.map NV.x = preT t) (fun pre => pre.map NV.x <+: preT t) (preT t).length w := fun l J Jx W hW hJ _ hY h0 => by
  exact nodes1_in l n₀ (preT t).length J Jx (fun pre W' o hj => hJ _ _ _ none hj (World.grownBy_alloc W' o none) (fun r e => by cases e)) (fun m pre x W' hj hl => yield_any m (hY pre x W' hj hl)) t n Bt A3 c3 A4 c4 W (Nat.le_trans hn hW.size) (blk_below hB hW) (Kd.F_below hF hW) h0 (Nat.le_refl _)
end Go.Proofs.Ytkeeknlfommieaa.PF
