/- append of a whole list onto a row of the call's own, the list nil or anywhere in memory: as one step of a region that draws its order. -/
import Derived.Test.YtkeeknlfommieaaB9
import Derived.Maps.AppendAt
namespace Go.Proofs.Ytkeeknlfommieaa.PF
open Go.RowKit Go.Shelf Go.Proofs.YtkeeknlfommieaaW.PrintWords Go.Proofs.YtkeeknlfommieaaW.PrintLast Go.Proofs.YtkeeknlfommieaaW.PrintMore

/-- What is appended: m elements, their cells. -/
def News (W : World) (size : Nat) (vx : Value) (m : Nat) (news : List Value) : Prop :=
  (vx = .slice none 0 0 ∧ m = 0 ∧ news = []) ∨ ∃ ad c, vx = .slice (some ad) m c ∧ news.length = m * size ∧ (∀ u ∈ news, u.oneCell' = true) ∧ ∀ j u, news[j]? = some u → W.cell? (ad.add j) = some u
theorem run_append_nilx {P : Program} (w : World) {base : Nat} {t ty e : TypeId} {i : TypeInfo} {size : Nat} (ht : P.underlying t = some (.slice e)) (hi : P.info? e = some i) {v : Value} {n : Nat} {xs : List Value} (hown : w.ownsRow base e size v n xs) :
    (Builtin.append_ #[t, t] ty #[v, .slice none 0 0]).run P w = .ok v w := by
  rcases hown.2 with ⟨rfl, rfl⟩ | ⟨g, cap, cur, rfl, _, _, hnc, _⟩
  · simp [Builtin.append_, run_underlying ht, sizeOf, typeInfo, hi, Builtin.lenOf, Builtin.firstCells]
  · simp [Builtin.append_, run_underlying ht, sizeOf, typeInfo, hi, Builtin.lenOf, Builtin.firstCells, storeCells, hnc]
/-- What is known behind an append onto v: its row, what was there but for v's own block, where the new one lies. -/
structure Apd (base : Nat) (e : TypeId) (size : Nat) (w0 W : World) (v v1 : Value) (n : Nat) (xs : List Value) (w1 : World) : Prop where
  own : w1.ownsRow base e size v1 n xs
  low : Below base w0 w1
  grow : W.grownBy w1 v.ownBlock
  at' : v1.ownBlock = v.ownBlock ∨ v1.ownBlock = some W.heap.size
section
variable {P : Program} {ops : Array Oper} {o : Oper} {a : Act} {Q : Exit → Act → World → Prop} {K : Act → World → Prop}
theorem step_app {w0 W : World} (base : Nat) (hw : Region.wanted o (yielded ops a.tmps) = true) (s x : Operand) (t e : TypeId) (z : Value) (size bytes : Nat)
    (ho : o.op = .call { callee := .builtin .append, args := #[s, x], argTypes := #[t, t] })
    (ht : P.underlying t = some (.slice e)) (hinfo : (P.info? e).map (fun i => (i.zero, i.size, i.bytes)) = some (some z, size, bytes)) (hz : z.cells.size = size) (hs0 : 0 < size) (hb0 : 0 < bytes)
    (v vx : Value) (n m : Nat) (xs news : List Value) (hs : a.eval s = v) (hx : a.eval x = vx) (HO : W.ownsRow base e size v n xs) (HN : News W size vx m news) (HB : Below base w0 W) (hb0' : base = w0.heap.size) (hl : (n + m) * bytes ≤ 140737488355328)
    (h : ∀ v1 w1, Apd base e size w0 W v v1 (n + m) (xs ++ news) w1 → K (a.put o.dst v1) w1) :
    if Region.wanted o (yielded ops a.tmps) = true then Oper.wp P o a W K Q else K (a.put o.dst undef) W := by
  obtain ⟨i0, hi, hzz⟩ := Option.map_eq_some_iff.1 hinfo
  simp only [Prod.mk.injEq] at hzz
  obtain ⟨hz0, hz1, hz2⟩ := hzz
  have hbase : base ≤ W.heap.size := by rw [hb0']; exact HB.size
  have hlen : n + m ≤ 140737488355328 := Nat.le_trans (Nat.le_mul_of_pos_right _ hb0) hl
  rw [if_pos hw]
  rcases HN with ⟨rfl, rfl, rfl⟩ | ⟨ad, c, rfl, hnl, h1, hnews⟩
  · have hr := run_append_nilx (P := P) W (ty := o.type) ht hi HO
    unfold Oper.wp execOp
    simp only [ho, resolve, invoke, builtin, Sem.run_bind, Sem.run_pure, Result.andThen_ok, List.map_toArray, List.map_cons, List.map_nil, hs, hx, hr]
    exact h v W ⟨by simpa using HO, HB, ⟨rfl, rfl, rfl, Nat.le_refl _, fun _ _ _ => rfl⟩, .inl rfl⟩
  · obtain ⟨v1, w1, hr, hown, hg, _, hat⟩ := run_append_own_at (P := P) W base t o.type e i0 z size bytes ht hi hz0 hz1 hz2 hz hs0 v n xs HO ad m c news hnl hnews h1 (by simp only [maxLen]; omega) hl hbase
    unfold Oper.wp execOp
    simp only [ho, resolve, invoke, builtin, Sem.run_bind, Sem.run_pure, Result.andThen_ok, List.map_toArray, List.map_cons, List.map_nil, hs, hx, hr]
    exact h v1 w1 ⟨hown, HB.grown hg hbase (own_base HO), hg, hat⟩
end
theorem add_blk (a : Addr) (n : Nat) : (a.add n).block = a.block := by unfold Addr.add; first | rfl | (split <;> rfl)
theorem News.far {W W' : World} {size m : Nat} {vx : Value} {news : List Value} (h : News W size vx m news) (hc : ∀ a u, W.cell? a = some u → vx.ownBlock = some a.block → W'.cell? a = some u) : News W' size vx m news := by
  rcases h with h | ⟨ad, c, rfl, hl, h1, h2⟩
  · exact .inl h
  · refine .inr ⟨ad, c, rfl, hl, h1, fun j u hj => hc _ u (h2 j u hj) ?_⟩
    simp [Value.ownBlock, add_blk]
theorem news_one (w : World) {ys : List Value} {t : TypeId} {size : Nat} (hys : ys.length = size) (h1 : ∀ u ∈ ys, u.oneCell' = true) : News (w.alloc (.cells ys.toArray t)) size (.slice (some ⟨w.heap.size, 0, none⟩) 1 1) 1 ys :=
  .inr ⟨_, _, rfl, by omega, h1, by simpa using World.news_of_block (cs := ys.toArray) (t := t) (fr := (0, 0)) (heap_alloc_new w (.cells ys.toArray t))⟩
theorem news_blk {w : World} {g : Nat} {ys : List Value} {t : TypeId} {size : Nat} (h : w.heap[g]? = some (.cells ys.toArray t (0, 0))) (hys : ys.length = size) (h1 : ∀ u ∈ ys, u.oneCell' = true) : News w size (.slice (some ⟨g, 0, none⟩) 1 1) 1 ys :=
  .inr ⟨_, _, rfl, by omega, h1, by simpa using World.news_of_block (cs := ys.toArray) (t := t) (fr := (0, 0)) h⟩
theorem news_none {W : World} {size c : Nat} {ad : Addr} : News W size (.slice (some ad) 0 c) 0 [] := .inr ⟨ad, c, rfl, by simp, by simp, by simp⟩
theorem news_nil {W : World} {size : Nat} : News W size (.slice none 0 0) 0 [] := .inl ⟨rfl, rfl, rfl⟩
theorem news_take {w : World} {base : Nat} {e : TypeId} {size n g cap : Nat} {xs : List Value} (h : w.ownsRow base e size (.slice (some ⟨g, 0, none⟩) n cap) n xs) (h1 : ∀ u ∈ xs, u.oneCell' = true) (q c : Nat) (hq : q ≤ n) : News w size (.slice (some ⟨g, 0, none⟩) q c) q (xs.take (q * size)) := by
  refine .inr ⟨_, _, rfl, ?_, fun u hu => h1 u (List.mem_of_mem_take hu), fun j u hj => ?_⟩
  · rw [List.length_take, h.1]; exact Nat.min_eq_left (Nat.mul_le_mul_right _ hq)
  · rw [List.getElem?_take] at hj
    split at hj
    · exact h.cells (g := g) rfl j u hj
    · cases hj
theorem news_drop {w : World} {base : Nat} {e : TypeId} {size n g cap : Nat} {xs : List Value} (h : w.ownsRow base e size (.slice (some ⟨g, 0, none⟩) n cap) n xs) (h1 : ∀ u ∈ xs, u.oneCell' = true) (q c : Nat) (ad : Addr) (had : q < n → ad = (⟨g, 0, none⟩ : Addr).add (q * size)) (hq : q ≤ n) : News w size (.slice (some ad) (n - q) c) (n - q) (xs.drop (q * size)) := by
  refine .inr ⟨_, _, rfl, ?_, fun u hu => h1 u (List.mem_of_mem_drop hu), fun j u hj => ?_⟩
  · rw [List.length_drop, h.1, Nat.sub_mul]
  · rw [List.getElem?_drop] at hj
    have hlt : q < n := by
      have := (List.getElem?_eq_some_iff.1 hj).1
      rw [h.1] at this
      rcases Nat.lt_or_ge q n with h2 | h2
      · exact h2
      · obtain rfl : q = n := by omega
        omega
    rw [had hlt, Addr.add_add]
    exact h.cells (g := g) rfl _ u hj
theorem news_take' {wo W : World} (hb : Below wo.heap.size wo W) {base : Nat} {e : TypeId} {size n g cap : Nat} {xs : List Value} (h : wo.ownsRow base e size (.slice (some ⟨g, 0, none⟩) n cap) n xs) (h1 : ∀ u ∈ xs, u.oneCell' = true) (q c : Nat) (hq : q ≤ n) : News W size (.slice (some ⟨g, 0, none⟩) q c) q (xs.take (q * size)) :=
  (news_take h h1 q c hq).far fun _ _ hc _ => (hb.cell (World.block_lt_of_cell? _ _ hc)).trans hc
theorem news_drop' {wo W : World} (hb : Below wo.heap.size wo W) {base : Nat} {e : TypeId} {size n g cap : Nat} {xs : List Value} (h : wo.ownsRow base e size (.slice (some ⟨g, 0, none⟩) n cap) n xs) (h1 : ∀ u ∈ xs, u.oneCell' = true) (q c : Nat) (ad : Addr) (had : q < n → ad = (⟨g, 0, none⟩ : Addr).add (q * size)) (hq : q ≤ n) : News W size (.slice (some ad) (n - q) c) (n - q) (xs.drop (q * size)) :=
  (news_drop h h1 q c ad had hq).far fun _ _ hc _ => (hb.cell (World.block_lt_of_cell? _ _ hc)).trans hc
theorem news_dropI {wo W : World} (hb : Below wo.heap.size wo W) {base : Nat} {e : TypeId} {size n g cap : Nat} {xs : List Value} (h : wo.ownsRow base e size (.slice (some ⟨g, 0, none⟩) n cap) n xs) (h1 : ∀ u ∈ xs, u.oneCell' = true) (q c m : Nat) (hm : m = q * size) (hq : q ≤ n) (hc : n ≤ cap) :
    News W size (.slice (if cap = q then some ⟨g, 0, none⟩ else some ⟨g, m, none⟩) (n - q) c) (n - q) (xs.drop (q * size)) := by
  split
  · exact news_drop' hb h h1 q c _ (fun hlt => by omega) hq
  · exact news_drop' hb h h1 q c _ (fun hlt => by rw [hm, add_plain]) hq
theorem grownBy_any {w w1 : World} (h : Below w.heap.size w w1) (row : Option Nat) : w.grownBy w1 row := ⟨h.os, h.tape, h.output, h.size, fun k hk _ => h.block k hk⟩
theorem grownBy_store {w w1 : World} (h : Below w.heap.size w w1) (T i : Nat) (u : Value) : w.grownBy (w1.setCell ⟨T, i, none⟩ u) (some T) :=
  World.grownBy.trans (grownBy_any h _) ⟨rfl, rfl, rfl, by simp, fun k _ hne => Below.heap_setCell w1 ⟨T, i, none⟩ u k (fun e => hne (by rw [e]))⟩
theorem own_store {w : World} {H base T i : Nat} {e : TypeId} {size n : Nat} {v u : Value} {xs : List Value} (h : w.ownsRow H e size v n xs) (hT : T < H) (hb : base ≤ H) : (w.setCell ⟨T, i, none⟩ u).ownsRow base e size v n xs :=
  own_weaken (own_setCell h (p := ⟨T, i, none⟩) (fun e => by
    have := (h.lt T e.symm).1
    omega) u) hb
theorem size_drewR (w : World) : w.drew.heap.size = w.heap.size := rfl
theorem blk_newR (w : World) (o : Obj) {g : Nat} (h : g = w.heap.size) : (w.alloc o).heap[g]? = some o := by rw [h]; exact blk_new w o
theorem one_str (s : ByteArray) : ∀ u ∈ [Value.string s], u.oneCell' = true := by intro u hu; simp only [List.mem_singleton] at hu; rw [hu]; rfl
theorem one_strs (l : List ByteArray) : ∀ u ∈ l.map Value.string, u.oneCell' = true := by
  intro u hu
  obtain ⟨s, _, rfl⟩ := List.mem_map.1 hu
  rfl
/-- An empty row in a new block. -/
theorem own_empty {w : World} {base g : Nat} {e : TypeId} {size : Nat} (h : w.heap[g]? = some (.cells #[] e (0, 0))) (hg : base ≤ g) : w.ownsRow base e size (.slice (some ⟨g, 0, none⟩) 0 0) 0 [] :=
  ⟨by simp, .inr ⟨g, 0, #[], rfl, hg, h, Nat.le_refl _, by simp [maxLen], by simp, by simp⟩⟩
end Go.Proofs.Ytkeeknlfommieaa.PF
