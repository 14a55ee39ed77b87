/- append of a whole list onto a row of the call's own, the list nil or anywhere in memory: as one step of a region that draws its order. · The reference's Put: a text, put in its place in a list. · ty.Depth. · The reference's Has, Nodes, Depth, Fits of types, in plain words. · The reference's Vars: the variables in a type, in order, once each. · Records, in plain words: sorted fields are one list. · The sorted variables of ty.Vars and of the reference are the same list. · The reference's Kind, Fine, Var of a text, in plain words. · A region that draws its order, whose operations read and whose callees make memory of their own and hand back a value that is told: walked once, in the order of the text; the class of worlds: those in which all that was there reads as before. · The reference's Rising and Var of texts: contracts in plain words. -/
import Derived.Test.YtkeeknlfommieaaMR1
import Derived.Maps.AppendAt
import Derived.Test.YtkeeknlfommieaaPFx10
import Derived.Test.YtkeeknlfommieaaPFx66
import Derived.Test.YtkeeknlfommieaaPFx67
import Derived.Test.YtkeeknlfommieaaPFx71
import Derived.Test.YtkeeknlfommieaaPFx7
import Derived.Test.YtkeeknlfommieaaPFx6
import Derived.Test.YtkeeknlfommieaaMR0
import Derived.Deep.QuietTactic
import Derived.BigQuiet
namespace Go.Proofs.Ytkeeknlfommieaa.PF
open Go.RowKit Go.Shelf Go.Proofs.YtkeeknlfommieaaW.PrintWords Go.Proofs.YtkeeknlfommieaaW.PrintLast Go.Proofs.YtkeeknlfommieaaW.PrintMore

/-- What is appended: m elements, their cells. -/
def News (W : World) (size : Nat) (vx : Value) (m : Nat) (news : List Value) : Prop :=
  (vx = .slice none 0 0 ∧ m = 0 ∧ news = []) ∨ ∃ ad c, vx = .slice (some ad) m c ∧ news.length = m * size ∧ (∀ u ∈ news, u.oneCell' = true) ∧ ∀ j u, news[j]? = some u → W.cell? (ad.add j) = some u
theorem run_append_nilx {P : Program} (w : World) {base : Nat} {t ty e : TypeId} {i : TypeInfo} {size : Nat} (ht : P.underlying t = some (.slice e)) (hi : P.info? e = some i) {v : Value} {n : Nat} {xs : List Value} (hown : w.ownsRow base e size v n xs) :
    (Builtin.append_ #[t, t] ty #[v, .slice none 0 0]).run P w = .ok v w := by
  rcases hown.2 with ⟨rfl, rfl⟩ | ⟨g, cap, cur, rfl, _, _, hnc, _⟩
  · simp [Builtin.append_, run_underlying ht, sizeOf, typeInfo, hi, Builtin.lenOf, Builtin.firstCells]
  · simp [Builtin.append_, run_underlying ht, sizeOf, typeInfo, hi, Builtin.lenOf, Builtin.firstCells, storeCells, hnc]
/-- What is known behind an append onto v: its row, what was there but for v's own block, where the new one lies. -/
structure Apd (base : Nat) (e : TypeId) (size : Nat) (w0 W : World) (v v1 : Value) (n : Nat) (xs : List Value) (w1 : World) : Prop where
  own : w1.ownsRow base e size v1 n xs
  low : Below base w0 w1
  grow : W.grownBy w1 v.ownBlock
  at' : v1.ownBlock = v.ownBlock ∨ v1.ownBlock = some W.heap.size
section
variable {P : Program} {ops : Array Oper} {o : Oper} {a : Act} {Q : Exit → Act → World → Prop} {K : Act → World → Prop}
theorem step_app {w0 W : World} (base : Nat) (hw : Region.wanted o (yielded ops a.tmps) = true) (s x : Operand) (t e : TypeId) (z : Value) (size bytes : Nat)
    (ho : o.op = .call { callee := .builtin .append, args := #[s, x], argTypes := #[t, t] })
    (ht : P.underlying t = some (.slice e)) (hinfo : (P.info? e).map (fun i => (i.zero, i.size, i.bytes)) = some (some z, size, bytes)) (hz : z.cells.size = size) (hs0 : 0 < size) (hb0 : 0 < bytes)
    (v vx : Value) (n m : Nat) (xs news : List Value) (hs : a.eval s = v) (hx : a.eval x = vx) (HO : W.ownsRow base e size v n xs) (HN : News W size vx m news) (HB : Below base w0 W) (hb0' : base = w0.heap.size) (hl : (n + m) * bytes ≤ 140737488355328)
    (h : ∀ v1 w1, Apd base e size w0 W v v1 (n + m) (xs ++ news) w1 → K (a.put o.dst v1) w1) :
    if Region.wanted o (yielded ops a.tmps) = true then Oper.wp P o a W K Q else K (a.put o.dst undef) W := by
  obtain ⟨i0, hi, hzz⟩ := Option.map_eq_some_iff.1 hinfo
  simp only [Prod.mk.injEq] at hzz
  obtain ⟨hz0, hz1, hz2⟩ := hzz
  have hbase : base ≤ W.heap.size := by rw [hb0']; exact HB.size
  have hlen : n + m ≤ 140737488355328 := Nat.le_trans (Nat.le_mul_of_pos_right _ hb0) hl
  rw [if_pos hw]
  rcases HN with ⟨rfl, rfl, rfl⟩ | ⟨ad, c, rfl, hnl, h1, hnews⟩
  · have hr := run_append_nilx (P := P) W (ty := o.type) ht hi HO
    unfold Oper.wp execOp
    simp only [ho, resolve, invoke, builtin, Sem.run_bind, Sem.run_pure, Result.andThen_ok, List.map_toArray, List.map_cons, List.map_nil, hs, hx, hr]
    exact h v W ⟨by simpa using HO, HB, ⟨rfl, rfl, rfl, Nat.le_refl _, fun _ _ _ => rfl⟩, .inl rfl⟩
  · obtain ⟨v1, w1, hr, hown, hg, _, hat⟩ := run_append_own_at (P := P) W base t o.type e i0 z size bytes ht hi hz0 hz1 hz2 hz hs0 v n xs HO ad m c news hnl hnews h1 (by simp only [maxLen]; omega) hl hbase
    unfold Oper.wp execOp
    simp only [ho, resolve, invoke, builtin, Sem.run_bind, Sem.run_pure, Result.andThen_ok, List.map_toArray, List.map_cons, List.map_nil, hs, hx, hr]
    exact h v1 w1 ⟨hown, HB.grown hg hbase (own_base HO), hg, hat⟩
end
theorem add_blk (a : Addr) (n : Nat) : (a.add n).block = a.block := by unfold Addr.add; first | rfl | (split <;> rfl)
theorem News.far {W W' : World} {size m : Nat} {vx : Value} {news : List Value} (h : News W size vx m news) (hc : ∀ a u, W.cell? a = some u → vx.ownBlock = some a.block → W'.cell? a = some u) : News W' size vx m news := by
  rcases h with h | ⟨ad, c, rfl, hl, h1, h2⟩
  · exact .inl h
  · refine .inr ⟨ad, c, rfl, hl, h1, fun j u hj => hc _ u (h2 j u hj) ?_⟩
    simp [Value.ownBlock, add_blk]
theorem news_one (w : World) {ys : List Value} {t : TypeId} {size : Nat} (hys : ys.length = size) (h1 : ∀ u ∈ ys, u.oneCell' = true) : News (w.alloc (.cells ys.toArray t)) size (.slice (some ⟨w.heap.size, 0, none⟩) 1 1) 1 ys :=
  .inr ⟨_, _, rfl, by omega, h1, by simpa using World.news_of_block (cs := ys.toArray) (t := t) (fr := (0, 0)) (heap_alloc_new w (.cells ys.toArray t))⟩
theorem news_blk {w : World} {g : Nat} {ys : List Value} {t : TypeId} {size : Nat} (h : w.heap[g]? = some (.cells ys.toArray t (0, 0))) (hys : ys.length = size) (h1 : ∀ u ∈ ys, u.oneCell' = true) : News w size (.slice (some ⟨g, 0, none⟩) 1 1) 1 ys :=
  .inr ⟨_, _, rfl, by omega, h1, by simpa using World.news_of_block (cs := ys.toArray) (t := t) (fr := (0, 0)) h⟩
theorem news_none {W : World} {size c : Nat} {ad : Addr} : News W size (.slice (some ad) 0 c) 0 [] := .inr ⟨ad, c, rfl, by simp, by simp, by simp⟩
theorem news_nil {W : World} {size : Nat} : News W size (.slice none 0 0) 0 [] := .inl ⟨rfl, rfl, rfl⟩
theorem news_take {w : World} {base : Nat} {e : TypeId} {size n g cap : Nat} {xs : List Value} (h : w.ownsRow base e size (.slice (some ⟨g, 0, none⟩) n cap) n xs) (h1 : ∀ u ∈ xs, u.oneCell' = true) (q c : Nat) (hq : q ≤ n) : News w size (.slice (some ⟨g, 0, none⟩) q c) q (xs.take (q * size)) := by
  refine .inr ⟨_, _, rfl, ?_, fun u hu => h1 u (List.mem_of_mem_take hu), fun j u hj => ?_⟩
  · rw [List.length_take, h.1]; exact Nat.min_eq_left (Nat.mul_le_mul_right _ hq)
  · rw [List.getElem?_take] at hj
    split at hj
    · exact h.cells (g := g) rfl j u hj
    · cases hj
theorem news_drop {w : World} {base : Nat} {e : TypeId} {size n g cap : Nat} {xs : List Value} (h : w.ownsRow base e size (.slice (some ⟨g, 0, none⟩) n cap) n xs) (h1 : ∀ u ∈ xs, u.oneCell' = true) (q c : Nat) (ad : Addr) (had : q < n → ad = (⟨g, 0, none⟩ : Addr).add (q * size)) (hq : q ≤ n) : News w size (.slice (some ad) (n - q) c) (n - q) (xs.drop (q * size)) := by
  refine .inr ⟨_, _, rfl, ?_, fun u hu => h1 u (List.mem_of_mem_drop hu), fun j u hj => ?_⟩
  · rw [List.length_drop, h.1, Nat.sub_mul]
  · rw [List.getElem?_drop] at hj
    have hlt : q < n := by
      have := (List.getElem?_eq_some_iff.1 hj).1
      rw [h.1] at this
      rcases Nat.lt_or_ge q n with h2 | h2
      · exact h2
      · obtain rfl : q = n := by omega
        omega
    rw [had hlt, Addr.add_add]
    exact h.cells (g := g) rfl _ u hj
theorem news_take' {wo W : World} (hb : Below wo.heap.size wo W) {base : Nat} {e : TypeId} {size n g cap : Nat} {xs : List Value} (h : wo.ownsRow base e size (.slice (some ⟨g, 0, none⟩) n cap) n xs) (h1 : ∀ u ∈ xs, u.oneCell' = true) (q c : Nat) (hq : q ≤ n) : News W size (.slice (some ⟨g, 0, none⟩) q c) q (xs.take (q * size)) :=
  (news_take h h1 q c hq).far fun _ _ hc _ => (hb.cell (World.block_lt_of_cell? _ _ hc)).trans hc
theorem news_drop' {wo W : World} (hb : Below wo.heap.size wo W) {base : Nat} {e : TypeId} {size n g cap : Nat} {xs : List Value} (h : wo.ownsRow base e size (.slice (some ⟨g, 0, none⟩) n cap) n xs) (h1 : ∀ u ∈ xs, u.oneCell' = true) (q c : Nat) (ad : Addr) (had : q < n → ad = (⟨g, 0, none⟩ : Addr).add (q * size)) (hq : q ≤ n) : News W size (.slice (some ad) (n - q) c) (n - q) (xs.drop (q * size)) :=
  (news_drop h h1 q c ad had hq).far fun _ _ hc _ => (hb.cell (World.block_lt_of_cell? _ _ hc)).trans hc
theorem news_dropI {wo W : World} (hb : Below wo.heap.size wo W) {base : Nat} {e : TypeId} {size n g cap : Nat} {xs : List Value} (h : wo.ownsRow base e size (.slice (some ⟨g, 0, none⟩) n cap) n xs) (h1 : ∀ u ∈ xs, u.oneCell' = true) (q c m : Nat) (hm : m = q * size) (hq : q ≤ n) (hc : n ≤ cap) :
    News W size (.slice (if cap = q then some ⟨g, 0, none⟩ else some ⟨g, m, none⟩) (n - q) c) (n - q) (xs.drop (q * size)) := by
  split
  · exact news_drop' hb h h1 q c _ (fun hlt => by omega) hq
  · exact news_drop' hb h h1 q c _ (fun hlt => by rw [hm, add_plain]) hq
theorem grownBy_any {w w1 : World} (h : Below w.heap.size w w1) (row : Option Nat) : w.grownBy w1 row := ⟨h.os, h.tape, h.output, h.size, fun k hk _ => h.block k hk⟩
theorem grownBy_store {w w1 : World} (h : Below w.heap.size w w1) (T i : Nat) (u : Value) : w.grownBy (w1.setCell ⟨T, i, none⟩ u) (some T) :=
  World.grownBy.trans (grownBy_any h _) ⟨rfl, rfl, rfl, by simp, fun k _ hne => Below.heap_setCell w1 ⟨T, i, none⟩ u k (fun e => hne (by rw [e]))⟩
theorem own_store {w : World} {H base T i : Nat} {e : TypeId} {size n : Nat} {v u : Value} {xs : List Value} (h : w.ownsRow H e size v n xs) (hT : T < H) (hb : base ≤ H) : (w.setCell ⟨T, i, none⟩ u).ownsRow base e size v n xs :=
  own_weaken (own_setCell h (p := ⟨T, i, none⟩) (fun e => by
    have := (h.lt T e.symm).1
    omega) u) hb
theorem size_drewR (w : World) : w.drew.heap.size = w.heap.size := rfl
theorem blk_newR (w : World) (o : Obj) {g : Nat} (h : g = w.heap.size) : (w.alloc o).heap[g]? = some o := by rw [h]; exact blk_new w o
theorem one_str (s : ByteArray) : ∀ u ∈ [Value.string s], u.oneCell' = true := by intro u hu; simp only [List.mem_singleton] at hu; rw [hu]; rfl
theorem one_strs (l : List ByteArray) : ∀ u ∈ l.map Value.string, u.oneCell' = true := by
  intro u hu
  obtain ⟨s, _, rfl⟩ := List.mem_map.1 hu
  rfl
/-- An empty row in a new block. -/
theorem own_empty {w : World} {base g : Nat} {e : TypeId} {size : Nat} (h : w.heap[g]? = some (.cells #[] e (0, 0))) (hg : base ≤ g) : w.ownsRow base e size (.slice (some ⟨g, 0, none⟩) 0 0) 0 [] :=
  ⟨by simp, .inr ⟨g, 0, #[], rfl, hg, h, Nat.le_refl _, by simp [maxLen], by simp, by simp⟩⟩
end Go.Proofs.Ytkeeknlfommieaa.PF
namespace Go.Proofs.Ytkeeknlfommieaa.PF
open Go.RowKit Go.Shelf Go.Proofs.YtkeeknlfommieaaW.PrintWords Go.Proofs.YtkeeknlfommieaaW.PrintLast Go.Proofs.YtkeeknlfommieaaW.PrintMore

def putGo (s : ByteArray) : List ByteArray → List ByteArray → Bool → List ByteArray
  | [], out, done => if done then out else out ++ [s]
  | x :: l, out, done => if (!done && !Op.bytesLess x.toList s.toList) = true then (if (!(x.toList == s.toList)) = true then putGo s l (out ++ [s] ++ [x]) true else putGo s l (out ++ [x]) true) else putGo s l (out ++ [x]) done
def putL (l : List ByteArray) (s : ByteArray) : List ByteArray := putGo s l [] false
theorem putGo_drop (s : ByteArray) (l out : List ByteArray) (done : Bool) (k : Nat) (h : k < l.length) : putGo s (l.drop k) out done = if (!done && !Op.bytesLess l[k].toList s.toList) = true then (if (!(l[k].toList == s.toList)) = true then putGo s (l.drop (k + 1)) (out ++ [s] ++ [l[k]]) true else putGo s (l.drop (k + 1)) (out ++ [l[k]]) true) else putGo s (l.drop (k + 1)) (out ++ [l[k]]) done := by
  rw [drop_head l k h, putGo]
set_option maxRecDepth 100000 in
set_option maxHeartbeats 2000000 in
theorem rput_calls (A : Option Addr) (c : Nat) (l : List ByteArray) (s : ByteArray) (w : World) (hr : Kd.string.C w A l.length l) (hn : l.length ≤ 4294967296) :
    Calls Try.prog 71 #[.slice A l.length c, .string s] w fun e w' => (∃ A' c', e = .returned (.slice A' (putL l s).length c') ∧ (putL l s).length ≤ c' ∧ Kd.string.C w' A' (putL l s).length (putL l s)) ∧ Below w.heap.size w w' := by
  have HR := Aside0.mk hr
  have HN := Aside0.mk hn
  have hlen := hr.2.1
  clear hr hn
  go_enter Try.func71, Try.ntmps71
  go_wp2_with fail
  go_loopg [5, 6, 7] l.length (fun gk v5 v6 i wr => ∃ (k : Nat) (out : List ByteArray) (done : Bool), v6 = .bool done ∧ i = .int .i64 k ∧ Aside0 (gk + k = l.length) ∧ Aside0 (putGo s (l.drop k) out done = putL l s) ∧ Aside0 (out.length ≤ k + 1) ∧ Aside0 (done = false → out.length ≤ k) ∧ Aside0 (wr.ownsRow w.heap.size 9 1 v5 out.length (out.map Value.string)) ∧ Aside0 (Below w.heap.size w wr))
  case atStart => exact ⟨0, [], false, rfl, rfl, ⟨rfl⟩, ⟨rfl⟩, ⟨Nat.zero_le _⟩, ⟨fun _ => Nat.le_refl _⟩, ⟨World.ownsRow_nil _ _ _ _⟩, ⟨Below.refl _ _⟩⟩
  case round =>
    obtain ⟨k, out, done, rfl, rfl, HK, HP, HL, HL0, HO, HB⟩ := hrel
    have hsz : w.heap.size ≤ wr.heap.size := HB.out.size
    by_cases hlt : k < l.length
    · have hltZ : ((k : Int) < (l.length : Int)) := by omega
      obtain ⟨ad, e, h0⟩ := elS HR.out k hlt
      cases e
      have HW0 := Aside0.mk h0
      replace h0 := pw_cell_below HB.out h0
      have HD := Aside0.mk (putGo_drop s l out done k hlt)
      have HLT := Aside0.mk hlt
      generalize l[k] = x at *
      clear hlt
      obtain ⟨b1, hb1⟩ : ∃ b, Op.bytesLess x.toList s.toList = b := ⟨_, rfl⟩
      obtain ⟨b2, hb2⟩ : ∃ b, (x.toList == s.toList) = b := ⟨_, rfl⟩
      have HB1 := Aside0.mk hb1
      have HB2 := Aside0.mk hb2
      cases done with
      | true =>
        clear hb1 hb2
        go_wp2_with (first | ((with_reducible refine gate_builtin (b := .append) (xs := #[.tmp 34, .tmp 39]) rfl ?_); at_builtin; refine print_append_cells (w0 := w) w.heap.size rfl (.tmp 34) (.tmp 39) 23 9 (.string ⟨#[]⟩) 1 16 rfl Try.underlying23 info9 rfl (by decide) (by omega) _ out.length _ [.string x] rfl rfl rfl (one_str _) HO.out HB.out hsz (by have := HL.out; have := HLT.out; have := HN.out; omega) ?_; intro va wa hoa hba _ _; have HOa := Aside0.mk hoa; have HBa := Aside0.mk hba; (try have h0a := pw_cell_below hba HW0.out); have hza : w.heap.size ≤ wa.heap.size := hba.size; clear hoa hba))
        go_roundg (gk - 1)
        case measure => have := HK.out; have := HLT.out; omega
        case rel => exact ⟨k + 1, out ++ [x], true, rfl, by go_num, ⟨by have := HK.out; have := HLT.out; omega⟩, ⟨by rw [← HP.out, HD.out]; rfl⟩, ⟨by simp; have := HL.out; omega⟩, ⟨fun h => by cases h⟩, ⟨by simpa using HOa.out⟩, HBa⟩
      | false =>
        cases b1 with
        | true =>
          go_wp2_with (first | ((with_reducible refine gate_builtin (b := .append) (xs := #[.tmp 34, .tmp 39]) rfl ?_); at_builtin; refine print_append_cells (w0 := w) w.heap.size rfl (.tmp 34) (.tmp 39) 23 9 (.string ⟨#[]⟩) 1 16 rfl Try.underlying23 info9 rfl (by decide) (by omega) _ out.length _ [.string x] rfl rfl rfl (one_str _) HO.out HB.out hsz (by have := HL.out; have := HLT.out; have := HN.out; omega) ?_; intro va wa hoa hba _ _; have HOa := Aside0.mk hoa; have HBa := Aside0.mk hba; (try have h0a := pw_cell_below hba HW0.out); have hza : w.heap.size ≤ wa.heap.size := hba.size; clear hoa hba))
          go_roundg (gk - 1)
          case measure => have := HK.out; have := HLT.out; omega
          case rel => exact ⟨k + 1, out ++ [x], false, rfl, by go_num, ⟨by have := HK.out; have := HLT.out; omega⟩, ⟨by rw [← HP.out, HD.out, HB1.out]; rfl⟩, ⟨by simp; have := HL.out; have := HL0.out (by trivial); omega⟩, ⟨fun h => by simp; have := HL0.out (by trivial); omega⟩, ⟨by simpa using HOa.out⟩, HBa⟩
        | false =>
          cases b2 with
          | false =>
            go_wp2_with (first | ((with_reducible refine gate_builtin (b := .append) (xs := #[.tmp 30, .tmp 32]) rfl ?_); at_builtin; refine print_append_cells (w0 := w) w.heap.size rfl (.tmp 30) (.tmp 32) 23 9 (.string ⟨#[]⟩) 1 16 rfl Try.underlying23 info9 rfl (by decide) (by omega) _ out.length _ [.string s] rfl rfl rfl (one_str _) HO.out HB.out hsz (by have := HL.out; have := HLT.out; have := HN.out; omega) ?_; intro vb wb hob hbb _ _; have HOb := Aside0.mk hob; have HBb := Aside0.mk hbb; (try have h0b := pw_cell_below hbb HW0.out); have hzb : w.heap.size ≤ wb.heap.size := hbb.size; clear hob hbb) | ((with_reducible refine gate_builtin (b := .append) (xs := #[.tmp 34, .tmp 39]) rfl ?_); at_builtin; refine print_append_cells (w0 := w) w.heap.size rfl (.tmp 34) (.tmp 39) 23 9 (.string ⟨#[]⟩) 1 16 rfl Try.underlying23 info9 rfl (by decide) (by omega) _ (out.length + 1) _ [.string x] rfl rfl rfl (one_str _) HOb.out HBb.out hzb (by have := HL.out; have := HLT.out; have := HN.out; omega) ?_; intro va wa hoa hba _ _; have HOa := Aside0.mk hoa; have HBa := Aside0.mk hba; (try have h0a := pw_cell_below hba HW0.out); have hza : w.heap.size ≤ wa.heap.size := hba.size; clear hoa hba))
            go_roundg (gk - 1)
            case measure => have := HK.out; have := HLT.out; omega
            case rel => exact ⟨k + 1, out ++ [s] ++ [x], true, rfl, by go_num, ⟨by have := HK.out; have := HLT.out; omega⟩, ⟨by rw [← HP.out, HD.out, HB1.out, HB2.out]; rfl⟩, ⟨by simp; have := HL.out; have := HL0.out (by trivial); omega⟩, ⟨fun h => by cases h⟩, ⟨by simpa using HOa.out⟩, HBa⟩
          | true =>
            go_wp2_with (first | ((with_reducible refine gate_builtin (b := .append) (xs := #[.tmp 34, .tmp 39]) rfl ?_); at_builtin; refine print_append_cells (w0 := w) w.heap.size rfl (.tmp 34) (.tmp 39) 23 9 (.string ⟨#[]⟩) 1 16 rfl Try.underlying23 info9 rfl (by decide) (by omega) _ out.length _ [.string x] rfl rfl rfl (one_str _) HO.out HB.out hsz (by have := HL.out; have := HLT.out; have := HN.out; omega) ?_; intro va wa hoa hba _ _; have HOa := Aside0.mk hoa; have HBa := Aside0.mk hba; (try have h0a := pw_cell_below hba HW0.out); have hza : w.heap.size ≤ wa.heap.size := hba.size; clear hoa hba))
            go_roundg (gk - 1)
            case measure => have := HK.out; have := HLT.out; omega
            case rel => exact ⟨k + 1, out ++ [x], true, rfl, by go_num, ⟨by have := HK.out; have := HLT.out; omega⟩, ⟨by rw [← HP.out, HD.out, HB1.out, HB2.out]; rfl⟩, ⟨by simp; have := HL.out; have := HL0.out (by trivial); omega⟩, ⟨fun h => by cases h⟩, ⟨by simpa using HOa.out⟩, HBa⟩
    · have hltz : ¬ (k : Int) < (l.length : Int) := by omega
      have HKE := Aside0.mk (show k = l.length from by have := HK.out; omega)
      have HPE := Aside0.mk (show (if done then out else out ++ [s]) = putL l s from by
        rw [← HP.out, HKE.out, List.drop_of_length_le (Nat.le_refl _), putGo])
      clear hlt
      cases done with
      | true =>
        obtain ⟨A', c', hv, hc, hC⟩ := cS_of_own HO.out
        have HV := Aside0.mk hv
        have HX := Aside0.mk (show out = putL l s from HPE.out)
        go_wp2
        go_ret
        rw [← HX.out]
        exact ⟨⟨A', c', by first | rfl | rw [HV.out], hc, hC⟩, HB.out⟩
      | false =>
        go_wp2_with (first | ((with_reducible refine gate_builtin (b := .append) (xs := #[.tmp 43, .tmp 45]) rfl ?_); at_builtin; refine print_append_cells (w0 := w) w.heap.size rfl (.tmp 43) (.tmp 45) 23 9 (.string ⟨#[]⟩) 1 16 rfl Try.underlying23 info9 rfl (by decide) (by omega) _ out.length _ [.string s] rfl rfl rfl (one_str _) HO.out HB.out hsz (by have := HL.out; have := HN.out; have := HK.out; omega) ?_; intro va wa hoa hba _ _; have HOa := Aside0.mk hoa; have HBa := Aside0.mk hba; (try have h0a := pw_cell_below hba HW0.out); have hza : w.heap.size ≤ wa.heap.size := hba.size; clear hoa hba))
        go_ret
        have HX := Aside0.mk (show out ++ [s] = putL l s from HPE.out)
        have ho := HOa.out
        rw [show out.map Value.string ++ [.string s] = (out ++ [s]).map Value.string by simp, show out.length + 1 = (out ++ [s]).length by simp] at ho
        obtain ⟨A', c', rfl, hc, hC⟩ := cS_of_own ho
        rw [← HX.out]
        exact ⟨⟨A', c', rfl, hc, hC⟩, HBa.out⟩
end Go.Proofs.Ytkeeknlfommieaa.PF
namespace Go.Proofs.Ytkeeknlfommieaa.PF
open Go.RowKit Go.Shelf Go.Proofs.YtkeeknlfommieaaW.PrintWords Go.Proofs.YtkeeknlfommieaaW.PrintLast Go.Proofs.YtkeeknlfommieaaW.PrintMore

mutual
def depT : S26 → Nat
  | ⟨_, _, _, _, ar⟩ => depL ar + 1
def depL : List S26 → Nat
  | [] => 0
  | x :: l => Nat.max (depT x) (depL l)
end
mutual
def sizT : S26 → Nat
  | ⟨_, _, _, _, ar⟩ => sizL ar + 1
def sizL : List S26 → Nat
  | [] => 0
  | x :: l => sizT x + sizL l
end
theorem depL_app (l m : List S26) : depL (l ++ m) = Nat.max (depL l) (depL m) := by
  induction l with
  | nil => simp [depL]
  | cons x l ih => rw [List.cons_append, depL, depL, ih]; exact (Nat.max_assoc _ _ _).symm
theorem depL_take (l : List S26) (k : Nat) (h : k < l.length) : depL (l.take (k + 1)) = Nat.max (depL (l.take k)) (depT l[k]) := by
  rw [List.take_succ_eq_append_getElem h, depL_app]
  simp [depL]
theorem depL_mem (l : List S26) (x : S26) (h : x ∈ l) : depT x ≤ depL l := by
  induction l with
  | nil => cases h
  | cons y l ih =>
    rw [depL]
    rcases List.mem_cons.1 h with rfl | h
    · exact Nat.le_max_left _ _
    · exact Nat.le_trans (ih h) (Nat.le_max_right _ _)
set_option maxRecDepth 100000 in
set_option maxHeartbeats 2000000 in
theorem depth_calls (t : S26) : ∀ (_ : depT t ≤ 4611686018427387904) (w : World) (A3 : Option Addr) (c3 : Nat) (A4 : Option Addr) (c4 : Nat) (_ : t.f3.length ≤ c3) (_ : Kd.string.C w A3 t.f3.length t.f3) (_ : t.f4.length ≤ c4) (_ : k26.C w A4 t.f4.length t.f4),
    Calls Try.prog 29 #[.agg #[.int .i64 t.f0, .int .i64 t.f1, .string t.f2, .slice A3 t.f3.length c3, .slice A4 t.f4.length c4]] w fun e w' => e = .returned (.int .i64 (depT t)) ∧ Below w.heap.size w w' := by
  induction t using S26.ind with
  | h k0 n nm ls ar ih =>
  intro hbig w A3 c3 A4 c4 l3 g3 l4 g4
  dsimp only at l3 g3 l4 g4 hbig ⊢
  have hE : depT ⟨k0, n, nm, ls, ar⟩ = depL ar + 1 := by rw [depT]
  rw [hE] at hbig ⊢
  have HG4 := Aside0.mk g4
  have HIH := Aside0.mk ih
  have HBIG := Aside0.mk hbig
  have hl4 := g4.2.1
  clear ih l3 g3 l4 g4 hbig hE
  go_enter Try.func29, Try.ntmps29
  go_wp2
  go_loopg [3, 9] ar.length (fun gk v i wr => ∃ (k : Nat), v = .int .i64 (depL (ar.take k) : Nat) ∧ i = .int .i64 k ∧ Aside0 (gk + k = ar.length) ∧ Aside0 (Below w.heap.size w wr))
  case atStart => exact ⟨0, by simp [depL], rfl, ⟨by omega⟩, ⟨below_alloc (Below.refl _ _) _⟩⟩
  case round =>
    obtain ⟨k, rfl, rfl, HK, HB⟩ := hrel
    by_cases hlt : k < ar.length
    · have hltZ : ((k : Int) < (ar.length : Int)) := by omega
      obtain ⟨ad, B3, d3, B4, d4, e, h0, h1, h2, h3, h4, l3, g3, l4, g4⟩ := el26 (Kd.C_below HG4.out HB.out) k hlt
      cases e
      have hdl : depT ar[k] ≤ depL ar := depL_mem _ _ (List.getElem_mem hlt)
      have ha : Below wr.heap.size wr (wr.alloc (.cells #[.int .i64 ar[k].f0, .int .i64 ar[k].f1, .string ar[k].f2, .slice B3 ar[k].f3.length d3, .slice B4 ar[k].f4.length d4] 26)) := below_alloc (Below.refl _ _) _
      have HC := Aside0.mk (HIH.out ar[k] (List.getElem_mem hlt) (by have := HBIG.out; omega) _ B3 d3 B4 d4 l3 (Kd.C_below g3 ha) l4 (Kd.C_below g4 ha))
      have HT := Aside0.mk (depL_take ar k hlt)
      have HLT := Aside0.mk hlt
      generalize ar[k] = x at *
      clear l3 g3 l4 g4 hlt ha hdl
      go_wp2_with (go_at_call 29; refine HC.out.mono ?_; rintro e w1 ⟨rfl, hb1⟩)
      all_goals
        go_roundg (gk - 1)
        case measure => have := HK.out; have := HLT.out; omega
        case rel => exact ⟨k + 1, by rw [HT.out]; simp only [Nat.max_def]; split <;> first | rfl | (congr 1; omega), by go_num, ⟨by have := HK.out; have := HLT.out; omega⟩, ⟨HB.out.trans (((below_alloc (Below.refl _ _) _).trans (hb1.mono (by simp))).mono HB.out.size)⟩⟩
    · have hltz : ¬ (k : Int) < (ar.length : Int) := by omega
      go_wp2
      go_ret
      exact ⟨ret_int (by rw [show k = ar.length by have := HK.out; omega, List.take_length]; have := HBIG.out; unfold wrap64; omega), HB.out⟩
end Go.Proofs.Ytkeeknlfommieaa.PF
namespace Go.Proofs.Ytkeeknlfommieaa.PF
open Go.RowKit Go.Proofs.YtkeeknlfommieaaW.PrintWords Go.Proofs.YtkeeknlfommieaaW.PrintLast Go.Proofs.YtkeeknlfommieaaW.PrintMore

theorem preT_len (k n : Int) (nm : ByteArray) (ls : List ByteArray) (ar : List S26) : (preT ⟨k, n, nm, ls, ar⟩).length = (preL ar).length + 1 := by rw [preT]; rfl
theorem preT_pos (t : S26) : 0 < (preT t).length := by cases t; rw [preT_len]; omega
theorem preL_mem {l : List S26} {x : S26} (h : x ∈ l) : (preT x).length ≤ (preL l).length := by
  induction l with
  | nil => cases h
  | cons y l ih =>
    rw [preL, List.length_append]
    rcases List.mem_cons.1 h with rfl | h
    · omega
    · have := ih h; omega
theorem preL_len (l : List S26) : l.length ≤ (preL l).length := by
  induction l with
  | nil => exact Nat.zero_le _
  | cons y l ih => rw [preL, List.length_append, List.length_cons]; have := preT_pos y; omega
theorem preL_drop (l : List S26) (i : Nat) (h : i < l.length) : preL (l.drop i) = preT l[i] ++ preL (l.drop (i + 1)) := by rw [List.drop_eq_getElem_cons h, preL]
theorem preL_drop_le (l : List S26) (i : Nat) : (preL (l.drop i)).length ≤ (preL l).length := by
  have : preL l = preL (l.take i) ++ preL (l.drop i) := by rw [← preL_app, List.take_append_drop]
  rw [this, List.length_append]; omega
theorem wr_suc {i : Nat} (h : i < 4611686018427387904) : wrap64 ((i : Int) + 1) = ((i + 1 : Nat) : Int) := by unfold wrap64; omega

theorem has_ev (kd : Int) (t : S26) : (preT t).length ≤ 4294967296 → ∃ K, ∀ k, K ≤ k → limbeckref04_Has.f k t.f0 t.f1 t.f2 t.f3 t.f4 kd = some (hasT t kd) := by
  induction t using S26.ind with
  | h k0 n nm ls ar ih =>
  intro hb
  rw [preT_len] at hb
  have hloop : ∀ m i, i + m = ar.length → ∃ K, ∀ k, K ≤ k → limbeckref04_Has.l0 k kd (i : Int) k0 n nm ls ar = some ((preL (ar.drop i)).any fun x => decide (x.f0 = kd)) := by
    intro m
    induction m with
    | zero =>
      intro i hi
      refine ⟨1, fun k hk => ?_⟩
      obtain ⟨q, rfl⟩ : ∃ q, k = q + 1 := ⟨k - 1, by omega⟩
      rw [limbeckref04_Has.l0, if_neg (by omega), List.drop_of_length_le (by omega)]
      rfl
    | succ m ihm =>
      intro i hi
      have hlt : i < ar.length := by omega
      obtain ⟨K1, h1⟩ := ihm (i + 1) (by omega)
      obtain ⟨K2, h2⟩ := ih ar[i] (List.getElem_mem hlt) (by have := preL_mem (List.getElem_mem hlt); omega)
      refine ⟨max K1 K2 + 1, fun k hk => ?_⟩
      obtain ⟨q, rfl⟩ : ∃ q, k = q + 1 := ⟨k - 1, by omega⟩
      rw [limbeckref04_Has.l0, if_pos (by omega), if_pos (by omega), rd_getElem ar i hlt, h2 q (by omega), Option.bind_some, wr_suc (by have := preL_len ar; omega), h1 q (by omega), preL_drop ar i hlt, List.any_append]
      show (if hasT ar[i] kd = true then some true else _) = some (hasT ar[i] kd || _)
      cases hasT ar[i] kd <;> rfl
  obtain ⟨K, h⟩ := hloop ar.length 0 (by omega)
  refine ⟨K + 1, fun k hk => ?_⟩
  obtain ⟨q, rfl⟩ : ∃ q, k = q + 1 := ⟨k - 1, by omega⟩
  dsimp only
  rw [limbeckref04_Has.f, show (0 : Int) = ((0 : Nat) : Int) from rfl, h q (by omega), List.drop_zero]
  unfold hasT
  rw [preT, List.any_cons]
  by_cases e : k0 = kd
  · simp [e]
  · simp [e]
theorem nodes_ev (t : S26) : (preT t).length ≤ 4294967296 → ∃ K, ∀ k, K ≤ k → limbeckref04_Nodes.f k t.f0 t.f1 t.f2 t.f3 t.f4 = some ((preT t).length : Int) := by
  induction t using S26.ind with
  | h k0 n nm ls ar ih =>
  intro hb
  rw [preT_len] at hb
  have hloop : ∀ m i a, i + m = ar.length → a + (preL (ar.drop i)).length ≤ 4294967297 → ∃ K, ∀ k, K ≤ k → limbeckref04_Nodes.l0 k ((a : Nat) : Int) (i : Int) k0 n nm ls ar = some ((a + (preL (ar.drop i)).length : Nat) : Int) := by
    intro m
    induction m with
    | zero =>
      intro i a hi ha
      refine ⟨1, fun k hk => ?_⟩
      obtain ⟨q, rfl⟩ : ∃ q, k = q + 1 := ⟨k - 1, by omega⟩
      rw [limbeckref04_Nodes.l0, if_neg (by omega), List.drop_of_length_le (by omega)]
      rfl
    | succ m ihm =>
      intro i a hi ha
      have hlt : i < ar.length := by omega
      have hm := preL_mem (List.getElem_mem hlt)
      obtain ⟨K2, h2⟩ := ih ar[i] (List.getElem_mem hlt) (by omega)
      have hd := preL_drop ar i hlt
      rw [hd, List.length_append] at ha
      obtain ⟨K1, h1⟩ := ihm (i + 1) (a + (preT ar[i]).length) (by omega) (by omega)
      refine ⟨max K1 K2 + 1, fun k hk => ?_⟩
      obtain ⟨q, rfl⟩ : ∃ q, k = q + 1 := ⟨k - 1, by omega⟩
      rw [limbeckref04_Nodes.l0, if_pos (by omega), if_pos (by omega), rd_getElem ar i hlt, h2 q (by omega), Option.bind_some, wr_suc (by have := preL_len ar; omega), show wrap64 ((a : Int) + ((preT ar[i]).length : Int)) = ((a + (preT ar[i]).length : Nat) : Int) from by unfold wrap64; omega, h1 q (by omega), hd, List.length_append, Nat.add_assoc]
  obtain ⟨K, h⟩ := hloop ar.length 0 1 (by omega) (by rw [List.drop_zero]; omega)
  refine ⟨K + 1, fun k hk => ?_⟩
  obtain ⟨q, rfl⟩ : ∃ q, k = q + 1 := ⟨k - 1, by omega⟩
  dsimp only
  rw [limbeckref04_Nodes.f]
  have := h q (by omega)
  rw [List.drop_zero] at this
  rw [preT_len, Nat.add_comm]
  exact this
theorem depL_le_pre (l : List S26) (h : ∀ x ∈ l, depT x ≤ (preT x).length) : depL l ≤ (preL l).length := by
  induction l with
  | nil => exact Nat.le_refl _
  | cons x l ih =>
    rw [depL, preL, List.length_append]
    have h1 := h x List.mem_cons_self
    have h2 := ih (fun y hy => h y (List.mem_cons_of_mem _ hy))
    exact Nat.max_le.2 ⟨by omega, by omega⟩
theorem dep_le (t : S26) : depT t ≤ (preT t).length := by
  induction t using S26.ind with
  | h k0 n nm ls ar ih =>
  rw [depT, preT_len]
  have := depL_le_pre ar ih
  omega
theorem depth_ev (t : S26) : (preT t).length ≤ 4294967296 → ∃ K, ∀ k, K ≤ k → limbeckref04_Depth.f k t.f0 t.f1 t.f2 t.f3 t.f4 = some (depT t : Int) := by
  induction t using S26.ind with
  | h k0 n nm ls ar ih =>
  intro hb
  rw [preT_len] at hb
  have hloop : ∀ m i (a : Nat), i + m = ar.length → a ≤ 4294967296 → ∃ K, ∀ k, K ≤ k → limbeckref04_Depth.l0 k (a : Int) (i : Int) k0 n nm ls ar = some ((Nat.max a (depL (ar.drop i)) + 1 : Nat) : Int) := by
    intro m
    induction m with
    | zero =>
      intro i a hi ha
      refine ⟨1, fun k hk => ?_⟩
      obtain ⟨q, rfl⟩ : ∃ q, k = q + 1 := ⟨k - 1, by omega⟩
      rw [limbeckref04_Depth.l0, if_neg (by omega), List.drop_of_length_le (by omega), wr_suc (by omega), depL]
      simp
    | succ m ihm =>
      intro i a hi ha
      have hlt : i < ar.length := by omega
      have hm := preL_mem (List.getElem_mem hlt)
      have hdl := dep_le ar[i]
      obtain ⟨K2, h2⟩ := ih ar[i] (List.getElem_mem hlt) (by omega)
      obtain ⟨K1, h1⟩ := ihm (i + 1) (Nat.max a (depT ar[i])) (by omega) (Nat.max_le.2 ⟨ha, by omega⟩)
      refine ⟨max K1 K2 + 1, fun k hk => ?_⟩
      obtain ⟨q, rfl⟩ : ∃ q, k = q + 1 := ⟨k - 1, by omega⟩
      have hmx : mx (a : Int) (depT ar[i] : Int) = ((Nat.max a (depT ar[i]) : Nat) : Int) := by
        unfold mx
        rcases Nat.lt_or_ge a (depT ar[i]) with h | h
        · rw [if_pos (by omega)]; exact congrArg (fun n : Nat => (n : Int)) (Nat.max_eq_right (Nat.le_of_lt h)).symm
        · rw [if_neg (by omega)]; exact congrArg (fun n : Nat => (n : Int)) (Nat.max_eq_left h).symm
      rw [limbeckref04_Depth.l0, if_pos (by omega), if_pos (by omega), rd_getElem ar i hlt, h2 q (by omega), Option.bind_some, wr_suc (by have := preL_len ar; omega), hmx, h1 q (by omega), List.drop_eq_getElem_cons hlt, depL]
      congr 3
      exact Nat.max_assoc _ _ _
  obtain ⟨K, h⟩ := hloop ar.length 0 0 (by omega) (by omega)
  refine ⟨K + 1, fun k hk => ?_⟩
  obtain ⟨q, rfl⟩ : ∃ q, k = q + 1 := ⟨k - 1, by omega⟩
  dsimp only
  rw [limbeckref04_Depth.f]
  have := h q (by omega)
  rw [List.drop_zero] at this
  rw [depT]
  refine this.trans ?_
  rw [show Nat.max 0 (depL ar) = depL ar from Nat.max_eq_right (Nat.zero_le _)]

theorem rhas_calls (t : S26) (kd : Int) (hb : (preT t).length ≤ 4294967296) (w : World) (A3 : Option Addr) (c3 : Nat) (A4 : Option Addr) (c4 : Nat) (l3 : t.f3.length ≤ c3) (g3 : Kd.string.C w A3 t.f3.length t.f3) (l4 : t.f4.length ≤ c4) (g4 : k26.C w A4 t.f4.length t.f4) :
    Calls Try.prog 19 #[.agg #[.int .i64 t.f0, .int .i64 t.f1, .string t.f2, .slice A3 t.f3.length c3, .slice A4 t.f4.length c4], .int .i64 kd] w fun e w' => e = .returned (.bool (hasT t kd)) ∧ Below w.heap.size w w' := by
  obtain ⟨K, h⟩ := has_ev kd t hb
  exact limbeckref04_Has.calls K t.f0 t.f1 t.f2 A3 c3 t.f3 A4 c4 t.f4 kd _ w g3 l3 g4 l4 (h K (Nat.le_refl _))
theorem rnodes_calls (t : S26) (hb : (preT t).length ≤ 4294967296) (w : World) (A3 : Option Addr) (c3 : Nat) (A4 : Option Addr) (c4 : Nat) (l3 : t.f3.length ≤ c3) (g3 : Kd.string.C w A3 t.f3.length t.f3) (l4 : t.f4.length ≤ c4) (g4 : k26.C w A4 t.f4.length t.f4) :
    Calls Try.prog 28 #[.agg #[.int .i64 t.f0, .int .i64 t.f1, .string t.f2, .slice A3 t.f3.length c3, .slice A4 t.f4.length c4]] w fun e w' => e = .returned (.int .i64 (preT t).length) ∧ Below w.heap.size w w' := by
  obtain ⟨K, h⟩ := nodes_ev t hb
  exact limbeckref04_Nodes.calls K t.f0 t.f1 t.f2 A3 c3 t.f3 A4 c4 t.f4 _ w g3 l3 g4 l4 (h K (Nat.le_refl _))
theorem rdepth_calls (t : S26) (hb : (preT t).length ≤ 4294967296) (w : World) (A3 : Option Addr) (c3 : Nat) (A4 : Option Addr) (c4 : Nat) (l3 : t.f3.length ≤ c3) (g3 : Kd.string.C w A3 t.f3.length t.f3) (l4 : t.f4.length ≤ c4) (g4 : k26.C w A4 t.f4.length t.f4) :
    Calls Try.prog 30 #[.agg #[.int .i64 t.f0, .int .i64 t.f1, .string t.f2, .slice A3 t.f3.length c3, .slice A4 t.f4.length c4]] w fun e w' => e = .returned (.int .i64 (depT t)) ∧ Below w.heap.size w w' := by
  obtain ⟨K, h⟩ := depth_ev t hb
  exact limbeckref04_Depth.calls K t.f0 t.f1 t.f2 A3 c3 t.f3 A4 c4 t.f4 _ w g3 l3 g4 l4 (h K (Nat.le_refl _))
theorem rfits_calls (t : S26) (hb : (preT t).length ≤ 4294967296) (w : World) (A3 : Option Addr) (c3 : Nat) (A4 : Option Addr) (c4 : Nat) (l3 : t.f3.length ≤ c3) (g3 : Kd.string.C w A3 t.f3.length t.f3) (l4 : t.f4.length ≤ c4) (g4 : k26.C w A4 t.f4.length t.f4) :
    Calls Try.prog 36 #[.agg #[.int .i64 t.f0, .int .i64 t.f1, .string t.f2, .slice A3 t.f3.length c3, .slice A4 t.f4.length c4]] w fun e w' => e = .returned (.bool (decide ((preT t).length ≤ 300))) ∧ Below w.heap.size w w' := by
  obtain ⟨K, h⟩ := nodes_ev t hb
  refine limbeckref04_Fits.calls K t.f0 t.f1 t.f2 A3 c3 t.f3 A4 c4 t.f4 _ w g3 l3 g4 l4 ?_
  unfold limbeckref04_Fits.f
  rw [h K (Nat.le_refl _), Option.bind_some]
  congr 1
  rw [Bool.eq_iff_iff, decide_eq_true_iff, decide_eq_true_iff]
  omega
end Go.Proofs.Ytkeeknlfommieaa.PF
namespace Go.Proofs.Ytkeeknlfommieaa.PF
open Go.RowKit Go.Shelf Go.Proofs.YtkeeknlfommieaaW.PrintWords Go.Proofs.YtkeeknlfommieaaW.PrintLast Go.Proofs.YtkeeknlfommieaaW.PrintMore

mutual
def varsR : S26 → List ByteArray
  | ⟨k, _, nm, _, ar⟩ => varsRL ar (if k = 6 then [nm] else [])
def varsRL : List S26 → List ByteArray → List ByteArray
  | [], out => out
  | x :: l, out => varsRL l ((varsR x).foldl putL out)
end
theorem putGo_len (s : ByteArray) (l : List ByteArray) : ∀ out done, (putGo s l out done).length ≤ out.length + l.length + 1 := by
  induction l with
  | nil => intro out done; rw [putGo]; split <;> simp
  | cons x l ih =>
    intro out done
    rw [putGo]
    split
    · split
      · -- put and go on: done
        have key : ∀ l' out', (putGo s l' out' true).length = out'.length + l'.length := by
          intro l'
          induction l' with
          | nil => intro out'; rw [putGo]; simp
          | cons y l' ih' => intro out'; rw [putGo]; simp only [Bool.not_true, Bool.false_and, Bool.false_eq_true, if_false]; rw [ih']; simp; omega
        rw [key]; simp; omega
      · have := ih (out ++ [x]) true; simp at this ⊢; omega
    · have := ih (out ++ [x]) done; simp at this ⊢; omega
theorem putL_len (l : List ByteArray) (s : ByteArray) : (putL l s).length ≤ l.length + 1 := by
  have := putGo_len s l [] false
  unfold putL
  simpa using this
theorem fold_len (vs : List ByteArray) : ∀ out, (vs.foldl putL out).length ≤ out.length + vs.length := by
  induction vs with
  | nil => intro out; exact Nat.le_refl _
  | cons v vs ih => intro out; rw [List.foldl_cons]; have := ih (putL out v); have := putL_len out v; simp; omega
theorem varsRL_len (l : List S26) (h : ∀ x ∈ l, (varsR x).length ≤ (preT x).length) : ∀ out, (varsRL l out).length ≤ out.length + (preL l).length := by
  induction l with
  | nil => intro out; rw [varsRL]; omega
  | cons x l ih =>
    intro out
    rw [varsRL, preL, List.length_append]
    have h1 := ih (fun y hy => h y (List.mem_cons_of_mem _ hy)) ((varsR x).foldl putL out)
    have h2 := fold_len (varsR x) out
    have h3 := h x List.mem_cons_self
    omega
theorem varsR_len (t : S26) : (varsR t).length ≤ (preT t).length := by
  induction t using S26.ind with
  | h k0 n nm ls ar ih =>
  rw [varsR, preT_len]
  have := varsRL_len ar ih (if k0 = 6 then [nm] else [])
  split at this <;> split <;> simp_all <;> omega
theorem varsRL_drop (l : List S26) (i : Nat) (h : i < l.length) (out : List ByteArray) : varsRL (l.drop i) out = varsRL (l.drop (i + 1)) ((varsR l[i]).foldl putL out) := by
  rw [List.drop_eq_getElem_cons h, varsRL]
theorem fold_drop (vs : List ByteArray) (j : Nat) (h : j < vs.length) (out : List ByteArray) : (vs.drop j).foldl putL out = (vs.drop (j + 1)).foldl putL (putL out vs[j]) := by
  rw [List.drop_eq_getElem_cons h, List.foldl_cons]
theorem own1 (W : World) (base : Nat) (nm : ByteArray) (c : Nat) (h1 : 1 ≤ c) (h2 : c ≤ maxLen) (hb : base ≤ W.heap.size) :
    ((W.alloc (.cells (#[.string nm] ++ Builtin.zeroCells #[.string ⟨#[]⟩] (c - 1)) 9)).drew).ownsRow base 9 1 (.slice (some ⟨W.heap.size, 0, none⟩) 1 c) 1 ([nm].map Value.string) := by
  refine ⟨rfl, .inr ⟨W.heap.size, c, _, rfl, hb, blk_new W _, h1, h2, ?_, ?_⟩⟩
  · simp [Builtin.zeroCells]; omega
  · simp
set_option maxRecDepth 100000 in
set_option maxHeartbeats 2000000 in
theorem rvars_calls (t : S26) : ∀ (_ : (preT t).length ≤ 4294967296) (w : World) (A3 : Option Addr) (c3 : Nat) (A4 : Option Addr) (c4 : Nat) (_ : t.f3.length ≤ c3) (_ : Kd.string.C w A3 t.f3.length t.f3) (_ : t.f4.length ≤ c4) (_ : k26.C w A4 t.f4.length t.f4),
    Calls Try.prog 34 #[.agg #[.int .i64 t.f0, .int .i64 t.f1, .string t.f2, .slice A3 t.f3.length c3, .slice A4 t.f4.length c4]] w fun e w' => (∃ A c, e = .returned (.slice A (varsR t).length c) ∧ (varsR t).length ≤ c ∧ Kd.string.C w' A (varsR t).length (varsR t)) ∧ Below w.heap.size w w' := by
  induction t using S26.ind with
  | h k0 n nm ls ar ih =>
  intro hbig w A3 c3 A4 c4 l3 g3 l4 g4
  dsimp only at l3 g3 l4 g4 ⊢
  have HG4 := Aside0.mk g4
  have HIH := Aside0.mk ih
  rw [preT_len] at hbig
  have HBIG := Aside0.mk hbig
  have HVR := Aside0.mk (show varsR ⟨k0, n, nm, ls, ar⟩ = varsRL ar (if k0 = 6 then [nm] else []) from by rw [varsR])
  have hl3 := g3.2.1
  have hl4 := g4.2.1
  clear ih l3 g3 l4 g4 hbig
  by_cases h6 : k0 = 6
  · subst h6
    go_enter Try.func34, Try.ntmps34
    go_wp2_with (fail)
    have hc1 : 1 ≤ (Question.appendCap 1 0 9).cut (w.tape w.drawn (Question.appendCap 1 0 9)) := grownCap_ge w 1 0 9
    have hc2 : (Question.appendCap 1 0 9).cut (w.tape w.drawn (Question.appendCap 1 0 9)) ≤ maxLen := grownCap_le_maxLen w 1 0 9 (by decide)
    generalize (Question.appendCap 1 0 9).cut (w.tape w.drawn (Question.appendCap 1 0 9)) = cc at *
    have hoa := own1 ((w.alloc (.cells #[.int .i64 6, .int .i64 n, .string nm, .slice A3 ls.length c3, .slice A4 ar.length c4] 26)).alloc (.cells #[.string nm] 9)) (w.heap.size + 1) nm cc hc1 hc2 (by simp)
    have hba : Below (w.heap.size + 1) (w.alloc (.cells #[.int .i64 6, .int .i64 n, .string nm, .slice A3 ls.length c3, .slice A4 ar.length c4] 26)) ((((w.alloc (.cells #[.int .i64 6, .int .i64 n, .string nm, .slice A3 ls.length c3, .slice A4 ar.length c4] 26)).alloc (.cells #[.string nm] 9)).alloc (.cells (#[.string nm] ++ Builtin.zeroCells #[.string ⟨#[]⟩] (cc - 1)) 9)).drew) := by
      have h_ := below_drew (below_alloc (below_alloc (Below.refl (w.alloc (.cells #[.int .i64 6, .int .i64 n, .string nm, .slice A3 ls.length c3, .slice A4 ar.length c4] 26)).heap.size (w.alloc (.cells #[.int .i64 6, .int .i64 n, .string nm, .slice A3 ls.length c3, .slice A4 ar.length c4] 26))) (.cells #[.string nm] 9)) (.cells (#[.string nm] ++ Builtin.zeroCells #[.string ⟨#[]⟩] (cc - 1)) 9))
      simp only [World.size_alloc] at h_
      exact h_
    generalize (((w.alloc (.cells #[.int .i64 6, .int .i64 n, .string nm, .slice A3 ls.length c3, .slice A4 ar.length c4] 26)).alloc (.cells #[.string nm] 9)).alloc (.cells (#[.string nm] ++ Builtin.zeroCells #[.string ⟨#[]⟩] (cc - 1)) 9)).drew = W1 at *
    simp only [World.size_alloc] at hoa
    generalize (Value.slice (some ⟨w.heap.size + 1 + 1, 0, none⟩) 1 cc) = v1 at *
    obtain ⟨A0, c0, rfl, hc0, hC0⟩ := cS_of_own hoa
    have HOA := Aside0.mk hC0
    have HBA := Aside0.mk hba
    clear hoa hC0 hba hc1 hc2
    go_loopg [3, 4] ar.length (fun gk v3 i wr => ∃ (q : Nat) (out : List ByteArray) (A : Option Addr) (c : Nat), v3 = .slice A out.length c ∧ i = .int .i64 q ∧ Aside0 (gk + q = ar.length) ∧ Aside0 (varsRL (ar.drop q) out = varsR ⟨6, n, nm, ls, ar⟩) ∧ Aside0 (out.length + (preL (ar.drop q)).length ≤ 4294967296) ∧ Aside0 (out.length ≤ c ∧ Kd.string.C wr A out.length out) ∧ Aside0 (Below (w.heap.size + 1) (w.alloc (.cells #[.int .i64 6, .int .i64 n, .string nm, .slice A3 ls.length c3, .slice A4 ar.length c4] 26)) wr))
    case atStart => exact ⟨0, [nm], A0, c0, rfl, rfl, ⟨rfl⟩, ⟨by rw [List.drop_zero, HVR.out]; simp only [if_true]⟩, ⟨by rw [List.drop_zero]; have := HBIG.out; simp; omega⟩, ⟨hc0, HOA.out⟩, HBA⟩
    case round =>
      obtain ⟨q, out, A, c, rfl, rfl, HK, HP, HL, HC, HB⟩ := hrel
      have hz : w.heap.size < wr.heap.size := by have h_ := HB.out.size; simp only [World.size_alloc] at h_; omega
      have HBW := Aside0.mk ((below_alloc (Below.refl w.heap.size w) (.cells #[.int .i64 6, .int .i64 n, .string nm, .slice A3 ls.length c3, .slice A4 ar.length c4] 26)).trans (HB.out.mono (by omega)))
      have hbx := (HB.out.block _ (Nat.lt_succ_self _)).trans (blk_new w (.cells #[.int .i64 6, .int .i64 n, .string nm, .slice A3 ls.length c3, .slice A4 ar.length c4] 26))
      have k4 := blk_cell hbx 4
      simp at k4
      by_cases hlt : q < ar.length
      · have hltZ : ((q : Int) < (ar.length : Int)) := by omega
        obtain ⟨ad, B3, d3, B4, d4, e, h0, h1, h2, h3, h4, l3, g3, l4, g4⟩ := el26 (Kd.C_below HG4.out HBW.out) q hlt
        cases e
        have hm := preL_mem (List.getElem_mem hlt)
        have HCX := Aside0.mk (HIH.out ar[q] (List.getElem_mem hlt) (by have := HBIG.out; omega) wr B3 d3 B4 d4 l3 g3 l4 g4)
        have HD := Aside0.mk (varsRL_drop ar q hlt out)
        have HPD := Aside0.mk (congrArg List.length (preL_drop ar q hlt))
        have HVL := Aside0.mk (varsR_len ar[q])
        have HLT := Aside0.mk hlt
        generalize ar[q] = x at *
        clear l3 g3 l4 g4 hlt hm
        go_wp2_with (fail)
        refine HCX.out.mono ?_
        rintro e w1 ⟨⟨A5, c5, rfl, h5, hC5⟩, hb1⟩
        have HC5 := Aside0.mk hC5
        have HB1 := Aside0.mk hb1
        have hvl5 := hC5.2.1
        clear hC5 hb1 h5 h0 h1 h2 h3 h4 k4
        go_wp2_with (fail)
        obtain ⟨go, hgo⟩ : ∃ y, y = gk := ⟨_, rfl⟩
        subst hgo
        obtain ⟨wo, hwo⟩ : ∃ y, y = wr := ⟨_, rfl⟩
        subst hwo
        go_loopg [3, 6] (varsR x).length (fun gk2 v3 j wi => ∃ (m : Nat) (out2 : List ByteArray) (A' : Option Addr) (c' : Nat), v3 = .slice A' out2.length c' ∧ j = .int .i64 m ∧ Aside0 (gk2 + m = (varsR x).length) ∧ Aside0 (((varsR x).drop m).foldl putL out2 = (varsR x).foldl putL out) ∧ Aside0 (out2.length ≤ out.length + m) ∧ Aside0 (out2.length ≤ c' ∧ Kd.string.C wi A' out2.length out2) ∧ Aside0 (Below w1.heap.size w1 wi))
        case atStart => exact ⟨0, out, A, c, rfl, rfl, ⟨rfl⟩, ⟨by rw [List.drop_zero]⟩, ⟨Nat.le_refl _⟩, ⟨HC.out.1, Kd.C_below HC.out.2 HB1.out⟩, ⟨Below.refl _ _⟩⟩
        case round =>
          obtain ⟨m, out2, A', c', rfl, rfl, HK2, HP2, HL2, HC2, HBI⟩ := hrel
          by_cases hlt2 : m < (varsR x).length
          · have hltZ2 : ((m : Int) < ((varsR x).length : Int)) := by omega
            obtain ⟨a5, e, hc⟩ := elS (Kd.C_below HC5.out HBI.out) m hlt2
            cases e
            have HD2 := Aside0.mk (fold_drop (varsR x) m hlt2 out2)
            have HPC := Aside0.mk (rput_calls A' c' out2 (varsR x)[m] wr HC2.out.2 (by have := HL2.out; have := HL.out; have := HPD.out; rw [List.length_append] at this; have := HVL.out; omega))
            have HPL := Aside0.mk (putL_len out2 (varsR x)[m])
            have HLT2 := Aside0.mk hlt2
            generalize (varsR x)[m] = s at *
            clear hlt2
            go_wp2_with (go_at_call 71; refine HPC.out.mono ?_; rintro e w2 ⟨⟨A6, c6, rfl, h6', hC6⟩, hb2⟩)
            go_roundg (gk - 1)
            case measure => have := HK2.out; have := HLT2.out; omega
            case rel => exact ⟨m + 1, _, A6, c6, rfl, by go_num, ⟨by have := HK2.out; have := HLT2.out; omega⟩, ⟨by rw [← HP2.out, HD2.out]⟩, ⟨by have := HPL.out; have := HL2.out; omega⟩, ⟨h6', hC6⟩, ⟨HBI.out.trans (hb2.mono HBI.out.size)⟩⟩
          · have hltz2 : ¬ (m : Int) < ((varsR x).length : Int) := by omega
            have HKE := Aside0.mk (show m = (varsR x).length from by have := HK2.out; omega)
            clear hlt2
            go_wp2
            go_roundg (go - 1)
            case measure => have := HK.out; have := HLT.out; omega
            case rel => exact ⟨q + 1, out2, A', c', rfl, by go_num, ⟨by have := HK.out; have := HLT.out; omega⟩, ⟨by
              rw [← HP.out, HD.out, ← HP2.out, HKE.out, List.drop_of_length_le (Nat.le_refl _)]; rfl⟩, ⟨by have h_ := HPD.out; rw [List.length_append] at h_; have := HL.out; have := HL2.out; have := HVL.out; have h2_ := HL2.out; rw [HKE.out] at h2_; omega⟩, HC2, ⟨HB.out.trans ((HB1.out.trans (HBI.out.mono HB1.out.size)).mono (by omega))⟩⟩
      · have hltz : ¬ (q : Int) < (ar.length : Int) := by omega
        have HX := Aside0.mk (show out = varsR ⟨6, n, nm, ls, ar⟩ from by rw [← HP.out, List.drop_of_length_le (by omega), varsRL])
        clear hlt
        go_wp2
        go_ret
        rw [← HX.out]
        exact ⟨⟨A, c, rfl, HC.out.1, HC.out.2⟩, HBW.out⟩
  · have h6' : (k0 == 6) = false := beq_eq_false_iff_ne.2 h6
    have H6 := Aside0.mk h6
    clear h6
    go_enter Try.func34, Try.ntmps34
    go_wp2_with (fail)
    go_loopg [3, 4] ar.length (fun gk v3 i wr => ∃ (q : Nat) (out : List ByteArray) (A : Option Addr) (c : Nat), v3 = .slice A out.length c ∧ i = .int .i64 q ∧ Aside0 (gk + q = ar.length) ∧ Aside0 (varsRL (ar.drop q) out = varsR ⟨k0, n, nm, ls, ar⟩) ∧ Aside0 (out.length + (preL (ar.drop q)).length ≤ 4294967296) ∧ Aside0 (out.length ≤ c ∧ Kd.string.C wr A out.length out) ∧ Aside0 (Below (w.heap.size + 1) (w.alloc (.cells #[.int .i64 k0, .int .i64 n, .string nm, .slice A3 ls.length c3, .slice A4 ar.length c4] 26)) wr))
    case atStart => exact ⟨0, [], none, 0, rfl, rfl, ⟨rfl⟩, ⟨by rw [List.drop_zero, HVR.out, if_neg H6.out]⟩, ⟨by rw [List.drop_zero]; have := HBIG.out; simp; omega⟩, ⟨Nat.le_refl _, Kd.C_nil _ _⟩, ⟨Below.refl _ _⟩⟩
    case round =>
      obtain ⟨q, out, A, c, rfl, rfl, HK, HP, HL, HC, HB⟩ := hrel
      have hz : w.heap.size < wr.heap.size := by have h_ := HB.out.size; simp only [World.size_alloc] at h_; omega
      have HBW := Aside0.mk ((below_alloc (Below.refl w.heap.size w) (.cells #[.int .i64 k0, .int .i64 n, .string nm, .slice A3 ls.length c3, .slice A4 ar.length c4] 26)).trans (HB.out.mono (by omega)))
      have hbx := (HB.out.block _ (Nat.lt_succ_self _)).trans (blk_new w (.cells #[.int .i64 k0, .int .i64 n, .string nm, .slice A3 ls.length c3, .slice A4 ar.length c4] 26))
      have k4 := blk_cell hbx 4
      simp at k4
      by_cases hlt : q < ar.length
      · have hltZ : ((q : Int) < (ar.length : Int)) := by omega
        obtain ⟨ad, B3, d3, B4, d4, e, h0, h1, h2, h3, h4, l3, g3, l4, g4⟩ := el26 (Kd.C_below HG4.out HBW.out) q hlt
        cases e
        have hm := preL_mem (List.getElem_mem hlt)
        have HCX := Aside0.mk (HIH.out ar[q] (List.getElem_mem hlt) (by have := HBIG.out; omega) wr B3 d3 B4 d4 l3 g3 l4 g4)
        have HD := Aside0.mk (varsRL_drop ar q hlt out)
        have HPD := Aside0.mk (congrArg List.length (preL_drop ar q hlt))
        have HVL := Aside0.mk (varsR_len ar[q])
        have HLT := Aside0.mk hlt
        generalize ar[q] = x at *
        clear l3 g3 l4 g4 hlt hm
        go_wp2_with (fail)
        refine HCX.out.mono ?_
        rintro e w1 ⟨⟨A5, c5, rfl, h5, hC5⟩, hb1⟩
        have HC5 := Aside0.mk hC5
        have HB1 := Aside0.mk hb1
        have hvl5 := hC5.2.1
        clear hC5 hb1 h5 h0 h1 h2 h3 h4 k4
        go_wp2_with (fail)
        obtain ⟨go, hgo⟩ : ∃ y, y = gk := ⟨_, rfl⟩
        subst hgo
        obtain ⟨wo, hwo⟩ : ∃ y, y = wr := ⟨_, rfl⟩
        subst hwo
        go_loopg [3, 6] (varsR x).length (fun gk2 v3 j wi => ∃ (m : Nat) (out2 : List ByteArray) (A' : Option Addr) (c' : Nat), v3 = .slice A' out2.length c' ∧ j = .int .i64 m ∧ Aside0 (gk2 + m = (varsR x).length) ∧ Aside0 (((varsR x).drop m).foldl putL out2 = (varsR x).foldl putL out) ∧ Aside0 (out2.length ≤ out.length + m) ∧ Aside0 (out2.length ≤ c' ∧ Kd.string.C wi A' out2.length out2) ∧ Aside0 (Below w1.heap.size w1 wi))
        case atStart => exact ⟨0, out, A, c, rfl, rfl, ⟨rfl⟩, ⟨by rw [List.drop_zero]⟩, ⟨Nat.le_refl _⟩, ⟨HC.out.1, Kd.C_below HC.out.2 HB1.out⟩, ⟨Below.refl _ _⟩⟩
        case round =>
          obtain ⟨m, out2, A', c', rfl, rfl, HK2, HP2, HL2, HC2, HBI⟩ := hrel
          by_cases hlt2 : m < (varsR x).length
          · have hltZ2 : ((m : Int) < ((varsR x).length : Int)) := by omega
            obtain ⟨a5, e, hc⟩ := elS (Kd.C_below HC5.out HBI.out) m hlt2
            cases e
            have HD2 := Aside0.mk (fold_drop (varsR x) m hlt2 out2)
            have HPC := Aside0.mk (rput_calls A' c' out2 (varsR x)[m] wr HC2.out.2 (by have := HL2.out; have := HL.out; have := HPD.out; rw [List.length_append] at this; have := HVL.out; omega))
            have HPL := Aside0.mk (putL_len out2 (varsR x)[m])
            have HLT2 := Aside0.mk hlt2
            generalize (varsR x)[m] = s at *
            clear hlt2
            go_wp2_with (go_at_call 71; refine HPC.out.mono ?_; rintro e w2 ⟨⟨A6, c6, rfl, h6', hC6⟩, hb2⟩)
            go_roundg (gk - 1)
            case measure => have := HK2.out; have := HLT2.out; omega
            case rel => exact ⟨m + 1, _, A6, c6, rfl, by go_num, ⟨by have := HK2.out; have := HLT2.out; omega⟩, ⟨by rw [← HP2.out, HD2.out]⟩, ⟨by have := HPL.out; have := HL2.out; omega⟩, ⟨h6', hC6⟩, ⟨HBI.out.trans (hb2.mono HBI.out.size)⟩⟩
          · have hltz2 : ¬ (m : Int) < ((varsR x).length : Int) := by omega
            have HKE := Aside0.mk (show m = (varsR x).length from by have := HK2.out; omega)
            clear hlt2
            go_wp2
            go_roundg (go - 1)
            case measure => have := HK.out; have := HLT.out; omega
            case rel => exact ⟨q + 1, out2, A', c', rfl, by go_num, ⟨by have := HK.out; have := HLT.out; omega⟩, ⟨by
              rw [← HP.out, HD.out, ← HP2.out, HKE.out, List.drop_of_length_le (Nat.le_refl _)]; rfl⟩, ⟨by have h_ := HPD.out; rw [List.length_append] at h_; have := HL.out; have := HL2.out; have := HVL.out; have h2_ := HL2.out; rw [HKE.out] at h2_; omega⟩, HC2, ⟨HB.out.trans ((HB1.out.trans (HBI.out.mono HB1.out.size)).mono (by omega))⟩⟩
      · have hltz : ¬ (q : Int) < (ar.length : Int) := by omega
        have HX := Aside0.mk (show out = varsR ⟨k0, n, nm, ls, ar⟩ from by rw [← HP.out, List.drop_of_length_le (by omega), varsRL])
        clear hlt
        go_wp2
        go_ret
        rw [← HX.out]
        exact ⟨⟨A, c, rfl, HC.out.1, HC.out.2⟩, HBW.out⟩
end Go.Proofs.Ytkeeknlfommieaa.PF
namespace Go.Proofs.Ytkeeknlfommieaa.PF

theorem perm_eq {α : Type} {R : α → α → Prop} : ∀ (l m : List α), l.Perm m → l.Pairwise R → m.Pairwise R → (∀ a b, a ∈ l → b ∈ l → R a b → R b a → a = b) → l = m := by
  intro l
  induction l with
  | nil => intro m hp _ _ _; exact (List.nil_perm.1 hp).symm
  | cons a l ih =>
    intro m hp h1 h2 ha
    cases m with
    | nil => exact absurd hp.length_eq (by simp)
    | cons b m =>
      have hab : a = b := by
        by_cases e : a = b
        · exact e
        · have hbl : b ∈ l := by
            have : b ∈ a :: l := hp.symm.subset (List.mem_cons_self)
            rcases List.mem_cons.1 this with h | h
            · exact absurd h.symm e
            · exact h
          have ham : a ∈ m := by
            have : a ∈ b :: m := hp.subset (List.mem_cons_self)
            rcases List.mem_cons.1 this with h | h
            · exact absurd h e
            · exact h
          exact ha a b List.mem_cons_self (List.mem_cons_of_mem _ hbl) ((List.pairwise_cons.1 h1).1 b hbl) ((List.pairwise_cons.1 h2).1 a ham)
      subst hab
      rw [ih m ((List.perm_cons a).1 hp) (List.pairwise_cons.1 h1).2 (List.pairwise_cons.1 h2).2 (fun x y hx hy => ha x y (List.mem_cons_of_mem _ hx) (List.mem_cons_of_mem _ hy))]

def key (a : ByteArray × S26) : List UInt8 := a.1.data.toList
theorem bl_key (ps : List (ByteArray × S26)) : bl (ps.map Prod.fst) = ps.map key := by unfold bl; rw [List.map_map]; rfl
theorem rise_lt {l : List (List UInt8)} (h : risingN l = true) (j : Nat) (hj : j + 1 < l.length) : l[j] < l[j + 1] := by
  have h1 := allUp_iff.1 h (j + 1) hj
  unfold riseAt at h1
  simp only [Bool.and_eq_true, Bool.or_eq_true, decide_eq_true_iff] at h1
  have h2 := h1.2.resolve_left (by omega)
  simp only [Nat.add_sub_cancel, List.getD_eq_getElem?_getD, List.getElem?_eq_getElem hj, List.getElem?_eq_getElem (show j < l.length by omega), Option.getD_some] at h2
  rw [bytesLess_eq, decide_eq_true_iff] at h2
  exact h2
theorem rise_pair {ps : List (ByteArray × S26)} (h : risingN (ps.map key) = true) : ps.Pairwise fun a b => key a < key b := by
  rw [List.pairwise_iff_getElem]
  intro i j hi hj hij
  have hl : (ps.map key).length = ps.length := by simp
  have : ∀ d, i + d + 1 < ps.length → ∀ (hh : i + d + 1 < (ps.map key).length), (ps.map key)[i]'(by omega) < (ps.map key)[i + d + 1] := by
    intro d
    induction d with
    | zero => intro _ hh; exact rise_lt h i (by omega)
    | succ d ih => intro h1 hh; exact List.lt_trans (ih (by omega) (by omega)) (rise_lt h (i + d + 1) (by omega))
  have h2 := this (j - i - 1) (by omega) (by omega)
  simp only [show i + (j - i - 1) + 1 = j by omega, List.getElem_map] at h2
  exact h2
theorem recOf_unique (ps qs : List (ByteArray × S26)) (hp : qs.Perm ps) (hs : qs.Pairwise fun a b => ¬ key b < key a) : recOf (ps.mergeSort leP) = recOf qs := by
  have hp2 : (ps.mergeSort leP).Perm qs := (List.mergeSort_perm ps leP).trans hp.symm
  have hs2 : (ps.mergeSort leP).Pairwise fun a b => leP a b = true := List.pairwise_mergeSort (fun a b c h1 h2 => by
    unfold leP at *
    simp only [decide_eq_true_iff] at *
    exact List.le_trans h1 h2) (fun a b => by
    unfold leP
    rcases List.le_total a.1.data.toList b.1.data.toList with h | h <;> simp [h]) ps
  have hk : (ps.mergeSort leP).map key = qs.map key := by
    refine perm_eq (R := fun a b => ¬ b < a) _ _ (hp2.map key) ?_ ?_ ?_
    · rw [List.pairwise_map]
      exact hs2.imp fun {a b} h => by unfold leP at h; simpa [key] using h
    · rw [List.pairwise_map]; exact hs
    · intro a b _ _ h1 h2; exact List.le_antisymm (List.not_lt.1 h1) (List.not_lt.1 h2)
  unfold recOf
  rw [bl_key, bl_key, hk]
  by_cases hr : risingN (qs.map key) = true
  · rw [if_pos hr, if_pos hr]
    have : ps.mergeSort leP = qs := perm_eq (R := fun a b => key a < key b) _ _ hp2 (rise_pair (by rw [hk]; exact hr)) (rise_pair hr) (fun a b _ _ h1 h2 => absurd h2 (List.lt_asymm h1))
    rw [this]
  · rw [if_neg hr, if_neg hr]
theorem recT_eq {ls : List ByteArray} {ar : List S26} (hl : ls.length = ar.length) (qs : List (ByteArray × S26)) (hp : qs.Perm (ls.zip ar)) (hs : qs.Pairwise fun a b => ¬ key b < key a) : recT ls ar = recOf qs := by
  unfold recT
  rw [if_pos hl]
  exact recOf_unique _ _ hp hs
theorem recT_es {ls : List ByteArray} {ar : List S26} {es es' : List FE} (h1 : es.map FE.l = ls) (h2 : es.map (fun e => e.v.x) = ar) (hp : es'.Perm es) (hs : es'.Pairwise fun a b => ¬ b.l.data.toList < a.l.data.toList) :
    recT ls ar = if risingN (bl (es'.map FE.l)) = true then (⟨8, 0, ⟨#[]⟩, es'.map FE.l, es'.map fun e => e.v.x⟩, true) else (z26, false) := by
  subst h1 h2
  rw [recT_eq (by simp) (es'.map fun e => (e.l, e.v.x)) ?_ ?_]
  · unfold recOf
    simp only [List.map_map]
    rfl
  · have : ∀ l : List FE, (l.map FE.l).zip (l.map fun e => e.v.x) = l.map fun e => (e.l, e.v.x) := fun l => by
      induction l with
      | nil => rfl
      | cons a l ih => simp [ih]
    rw [this]
    exact hp.map _
  · rw [List.pairwise_map]; exact hs
end Go.Proofs.Ytkeeknlfommieaa.PF
namespace Go.Proofs.Ytkeeknlfommieaa.PF
open Go.RowKit Go.Shelf

/-- Strictly rising lists with the same members are one list. -/
theorem strict_eq : ∀ (l m : List (List UInt8)), l.Pairwise (· < ·) → m.Pairwise (· < ·) → (∀ x, x ∈ l ↔ x ∈ m) → l = m := by
  intro l
  induction l with
  | nil => intro m _ _ h; cases m with
    | nil => rfl
    | cons b m => exact absurd ((h b).2 List.mem_cons_self) (by simp)
  | cons a l ih =>
    intro m h1 h2 h
    cases m with
    | nil => exact absurd ((h a).1 List.mem_cons_self) (by simp)
    | cons b m =>
      rw [List.pairwise_cons] at h1 h2
      have hab : a = b := by
        rcases List.mem_cons.1 ((h a).1 List.mem_cons_self) with e | ha
        · exact e
        · rcases List.mem_cons.1 ((h b).2 List.mem_cons_self) with e | hb
          · exact e.symm
          · exact absurd (h1.1 b hb) (List.lt_asymm (h2.1 a ha))
      subst hab
      rw [ih m h1.2 h2.2 fun x => ?_]
      constructor
      · intro hx
        rcases List.mem_cons.1 ((h x).1 (List.mem_cons_of_mem _ hx)) with e | hm
        · exact absurd (h1.1 x hx) (by rw [e]; exact List.lt_irrefl _)
        · exact hm
      · intro hx
        rcases List.mem_cons.1 ((h x).2 (List.mem_cons_of_mem _ hx)) with e | hm
        · exact absurd (h2.1 x hx) (by rw [e]; exact List.lt_irrefl _)
        · exact hm
/-- Of a sorted list the kept places rise strictly and keep every member. -/
theorem compact_rise (zs : List (List UInt8)) (hs : zs.Pairwise (· ≤ ·)) : ∀ m, m ≤ zs.length → (Lib.compactUpTo zs.toArray m).Pairwise (· < ·) ∧ ∀ x, x ∈ Lib.compactUpTo zs.toArray m ↔ ∃ j, j < m ∧ zs[j]? = some x := by
  intro m
  induction m with
  | zero => intro _; simp [Lib.compactUpTo]
  | succ m ih =>
    intro hm
    obtain ⟨h1, h2⟩ := ih (by omega)
    have e : zs.toArray[m]! = zs[m]'hm := by simp [getElem!_pos, show m < zs.length from hm]
    rw [Lib.compactUpTo_succ]
    by_cases hk : Lib.keeps zs.toArray m = true
    · rw [if_pos hk, e]
      constructor
      · rw [List.pairwise_append]
        refine ⟨h1, List.pairwise_singleton _ _, fun x hx y hy => ?_⟩
        rw [List.mem_singleton] at hy
        subst hy
        obtain ⟨j, hj, hjx⟩ := (h2 x).1 hx
        obtain ⟨hjl, rfl⟩ := List.getElem?_eq_some_iff.1 hjx
        unfold Lib.keeps at hk
        rw [decide_eq_true_iff] at hk
        rcases hk with h0 | hne
        · omega
        · have e' : zs.toArray[m - 1]! = zs[m - 1]'(by omega) := by simp [getElem!_pos, show m - 1 < zs.length by omega]
          rw [e, e'] at hne
          have ha : zs[j] ≤ zs[m - 1] := by
            by_cases hq : j = m - 1
            · subst hq; exact List.le_refl _
            · exact List.pairwise_iff_getElem.1 hs j (m - 1) hjl (by omega) (by omega)
          have hb : zs[m - 1] ≤ zs[m] := List.pairwise_iff_getElem.1 hs (m - 1) m (by omega) hm (by omega)
          have hc : zs[m - 1] < zs[m] := Decidable.byContradiction fun hn => hne (List.le_antisymm (List.not_lt.1 hn) hb)
          exact List.lt_of_le_of_lt ha hc
      · intro x
        rw [List.mem_append, h2 x, List.mem_singleton]
        constructor
        · rintro (⟨j, hj, hx⟩ | rfl)
          · exact ⟨j, by omega, hx⟩
          · exact ⟨m, by omega, List.getElem?_eq_getElem hm⟩
        · rintro ⟨j, hj, hx⟩
          by_cases hq : j = m
          · subst hq; rw [List.getElem?_eq_getElem hm] at hx; cases hx; exact .inr rfl
          · exact .inl ⟨j, by omega, hx⟩
    · rw [if_neg hk, List.append_nil]
      refine ⟨h1, fun x => ?_⟩
      rw [h2 x]
      constructor
      · rintro ⟨j, hj, hx⟩; exact ⟨j, by omega, hx⟩
      · rintro ⟨j, hj, hx⟩
        by_cases hq : j = m
        · subst hq
          unfold Lib.keeps at hk
          rw [decide_eq_true_iff] at hk
          have hj0 : ¬ j = 0 := fun h => hk (.inl h)
          have e' : zs.toArray[j - 1]! = zs[j - 1]'(by omega) := by simp [getElem!_pos, show j - 1 < zs.length by omega]
          refine ⟨j - 1, by omega, ?_⟩
          have hee : zs.toArray[j]! = zs.toArray[j - 1]! := Decidable.byContradiction fun h => hk (.inr h)
          rw [e, e'] at hee
          rw [List.getElem?_eq_getElem (by omega), ← hee, ← List.getElem?_eq_getElem hm]; exact hx
        · exact ⟨j, by omega, hx⟩
theorem bl_mem (l : List ByteArray) (x : List UInt8) : x ∈ bl l ↔ ∃ s ∈ l, s.data.toList = x := List.mem_map
theorem sorted_rise (t : S26) : (sortedVars t).Pairwise (· < ·) ∧ ∀ x, x ∈ sortedVars t ↔ x ∈ bl (namesL (preT t)) := by
  have hs : ((bl (namesL (preT t))).mergeSort fun x y => decide (x ≤ y)).Pairwise (· ≤ ·) := by
    refine (List.pairwise_mergeSort (fun a b c h1 h2 => ?_) (fun a b => ?_) _).imp fun h => of_decide_eq_true h
    · rw [decide_eq_true_iff] at *; exact List.le_trans h1 h2
    · rw [Bool.or_eq_true, decide_eq_true_iff, decide_eq_true_iff]; exact List.le_total a b
  have h := compact_rise _ hs _ (Nat.le_refl _)
  refine ⟨h.1, fun x => ?_⟩
  unfold sortedVars Lib.compact
  rw [h.2 x]
  constructor
  · rintro ⟨j, _, hx⟩
    exact (List.mergeSort_perm _ _).subset (List.mem_of_getElem? hx)
  · intro hx
    obtain ⟨j, hj, e⟩ := List.getElem_of_mem ((List.mergeSort_perm (bl (namesL (preT t))) fun x y => decide (x ≤ y)).symm.subset hx)
    exact ⟨j, hj, by rw [List.getElem?_eq_getElem hj, e]⟩
/-- Put keeps a rising list rising and adds the one member. -/
theorem putGo_true (s : ByteArray) (l : List ByteArray) : ∀ out, putGo s l out true = out ++ l := by
  induction l with
  | nil => intro out; rw [putGo]; simp
  | cons x l ih => intro out; rw [putGo]; simp only [Bool.not_true, Bool.false_and, Bool.false_eq_true, if_false]; rw [ih]; simp
theorem putGo_rise (s : ByteArray) (l : List ByteArray) : ∀ out, (bl (out ++ l)).Pairwise (· < ·) → (∀ x ∈ bl out, x < s.data.toList) → (bl (putGo s l out false)).Pairwise (· < ·) ∧ ∀ x, x ∈ bl (putGo s l out false) ↔ x ∈ bl (out ++ l) ∨ x = s.data.toList := by
  have hb : ∀ l m : List ByteArray, bl (l ++ m) = bl l ++ bl m := fun l m => List.map_append
  have hc : ∀ (x : ByteArray) (m : List ByteArray), bl (x :: m) = x.data.toList :: bl m := fun x m => rfl
  induction l with
  | nil =>
    intro out h1 h2
    rw [putGo]
    simp only [Bool.false_eq_true, if_false]
    rw [List.append_nil] at h1 ⊢
    rw [hb, show bl [s] = [s.data.toList] from rfl]
    refine ⟨List.pairwise_append.2 ⟨h1, List.pairwise_singleton _ _, fun x hx y hy => ?_⟩, fun x => by rw [List.mem_append, List.mem_singleton]⟩
    rw [List.mem_singleton] at hy; subst hy; exact h2 x hx
  | cons x l ih =>
    intro out h1 h2
    rw [putGo]
    rw [ByteArray.toList_eq, ByteArray.toList_eq, bytesLess_eq]
    by_cases hlt : x.data.toList < s.data.toList
    · rw [if_neg (by simp [hlt])]
      have := ih (out ++ [x]) (by rw [List.append_assoc]; exact h1) (fun y hy => by
        rw [hb, List.mem_append] at hy
        rcases hy with hy | hy
        · exact h2 y hy
        · rw [show bl [x] = [x.data.toList] from rfl, List.mem_singleton] at hy; rw [hy]; exact hlt)
      rw [List.append_assoc] at this
      exact this
    · rw [if_pos (by simp [hlt])]
      have h1' := h1
      rw [hb, hc, List.pairwise_append, List.pairwise_cons] at h1
      by_cases heq : x.data.toList = s.data.toList
      · rw [if_neg (by simp [heq]), putGo_true, List.append_assoc]
        refine ⟨h1', fun y => ⟨.inl, ?_⟩⟩
        rintro (h | rfl)
        · exact h
        · rw [hb, List.mem_append]; refine .inr ?_; rw [show [x] ++ l = x :: l from rfl, hc, ← heq]; exact List.mem_cons_self
      · rw [if_pos (by rw [Bool.not_eq_true']; exact beq_eq_false_iff_ne.2 heq), putGo_true]
        have hsx : s.data.toList < x.data.toList := Decidable.byContradiction fun hn => heq (List.le_antisymm (List.not_lt.1 hn) (List.not_lt.1 hlt))
        rw [show out ++ [s] ++ [x] ++ l = out ++ (s :: x :: l) by simp, hb, hc, hc]
        constructor
        · rw [List.pairwise_append, List.pairwise_cons, List.pairwise_cons]
          refine ⟨h1.1, ⟨fun y hy => ?_, h1.2.1⟩, fun y hy z hz => ?_⟩
          · rcases List.mem_cons.1 hy with rfl | hy
            · exact hsx
            · exact List.lt_trans hsx (h1.2.1.1 y hy)
          · rcases List.mem_cons.1 hz with rfl | hz
            · exact h2 y hy
            · exact h1.2.2 y hy z hz
        · intro y
          rw [hb, hc]
          simp only [List.mem_append, List.mem_cons]
          constructor
          · rintro (h | rfl | rfl | h)
            · exact .inl (.inl h)
            · exact .inr rfl
            · exact .inl (.inr (.inl rfl))
            · exact .inl (.inr (.inr h))
          · rintro ((h | rfl | h) | rfl)
            · exact .inl h
            · exact .inr (.inr (.inl rfl))
            · exact .inr (.inr (.inr h))
            · exact .inr (.inl rfl)
theorem putL_rise (l : List ByteArray) (s : ByteArray) (h : (bl l).Pairwise (· < ·)) : (bl (putL l s)).Pairwise (· < ·) ∧ ∀ x, x ∈ bl (putL l s) ↔ x ∈ bl l ∨ x = s.data.toList :=
  putGo_rise s l [] h (fun _ h => by cases h)
theorem fold_rise (vs : List ByteArray) : ∀ out, (bl out).Pairwise (· < ·) → (bl (vs.foldl putL out)).Pairwise (· < ·) ∧ ∀ x, x ∈ bl (vs.foldl putL out) ↔ x ∈ bl out ∨ x ∈ bl vs := by
  induction vs with
  | nil => intro out h; exact ⟨h, fun x => by simp [bl]⟩
  | cons v vs ih =>
    intro out h
    have hp := putL_rise out v h
    have := ih (putL out v) hp.1
    refine ⟨this.1, fun x => ?_⟩
    rw [List.foldl_cons, this.2 x, hp.2 x]
    rw [show bl (v :: vs) = v.data.toList :: bl vs from rfl, List.mem_cons, or_assoc]
theorem namesL_append (l m : List S26) : namesL (l ++ m) = namesL l ++ namesL m := by unfold namesL; rw [List.filter_append, List.map_append]
theorem bl_append (l m : List ByteArray) : bl (l ++ m) = bl l ++ bl m := List.map_append
theorem varsRL_rise (l : List S26) (h : ∀ x ∈ l, (bl (varsR x)).Pairwise (· < ·) ∧ ∀ y, y ∈ bl (varsR x) ↔ y ∈ bl (namesL (preT x))) : ∀ out, (bl out).Pairwise (· < ·) → (bl (varsRL l out)).Pairwise (· < ·) ∧ ∀ y, y ∈ bl (varsRL l out) ↔ y ∈ bl out ∨ y ∈ bl (namesL (preL l)) := by
  induction l with
  | nil => intro out ho; rw [varsRL, preL]; exact ⟨ho, fun y => by simp [bl, namesL]⟩
  | cons x l ih =>
    intro out ho
    rw [varsRL, preL]
    have hf := fold_rise (varsR x) out ho
    have := ih (fun y hy => h y (List.mem_cons_of_mem _ hy)) _ hf.1
    refine ⟨this.1, fun y => ?_⟩
    rw [this.2 y, hf.2 y, (h x List.mem_cons_self).2 y, namesL_append, bl_append, List.mem_append, or_assoc]
theorem varsR_rise (t : S26) : (bl (varsR t)).Pairwise (· < ·) ∧ ∀ y, y ∈ bl (varsR t) ↔ y ∈ bl (namesL (preT t)) := by
  induction t using S26.ind with
  | h k0 n nm ls ar ih =>
  rw [varsR, preT]
  have := varsRL_rise ar ih (if k0 = 6 then [nm] else []) (by split <;> simp [bl])
  refine ⟨this.1, fun y => ?_⟩
  rw [this.2 y, show (⟨k0, n, nm, ls, ar⟩ : S26) :: preL ar = [⟨k0, n, nm, ls, ar⟩] ++ preL ar from rfl, namesL_append, bl_append, List.mem_append]
  have : namesL [(⟨k0, n, nm, ls, ar⟩ : S26)] = if k0 = 6 then [nm] else [] := by unfold namesL; by_cases h : k0 = 6 <;> simp [h]
  rw [this]
theorem vars_same (t : S26) : bl (varsR t) = sortedVars t :=
  strict_eq _ _ (varsR_rise t).1 (sorted_rise t).1 fun x => by rw [(varsR_rise t).2 x, (sorted_rise t).2 x]
theorem vars_eq (t : S26) : ((sortedVars t).map fun l => (⟨l.toArray⟩ : ByteArray)) = varsR t := by
  rw [← vars_same t]
  unfold bl
  rw [List.map_map]
  conv => rhs; rw [← List.map_id (varsR t)]
  exact List.map_congr_left fun s _ => rfl
end Go.Proofs.Ytkeeknlfommieaa.PF
namespace Go.Proofs.Ytkeeknlfommieaa.PF
open Go.RowKit Go.Proofs.YtkeeknlfommieaaW.PrintWords Go.Proofs.YtkeeknlfommieaaW.PrintLast Go.Proofs.YtkeeknlfommieaaW.PrintMore

theorem wr_succ {i : Nat} (h : i < 4611686018427387904) : wrap64 ((i : Int) + 1) = ((i + 1 : Nat) : Int) := by unfold wrap64; omega
theorem rdOf_nat {α : Type} (d : α) (l : List α) (i : Nat) (h : i < l.length) : rdOf d l (i : Int) = l[i] := by
  simp [rdOf, List.getD_eq_getElem?_getD, List.getElem?_eq_getElem h]
theorem kept_l1 (x : ByteArray) (l : List ByteArray) (hl : l.length ≤ 100) : ∀ n i k, i + n = l.length → n < k → limbeckref01_Kept.l1 k x l (i : Int) = some (if x.data.toList ∈ bl (l.drop i) then 4 else 0) := by
  intro n
  induction n with
  | zero =>
    intro i k hi hk
    obtain ⟨m, rfl⟩ : ∃ m, k = m + 1 := ⟨k - 1, by omega⟩
    rw [limbeckref01_Kept.l1, if_neg (by omega), List.drop_of_length_le (by omega)]
    rfl
  | succ n ih =>
    intro i k hi hk
    obtain ⟨m, rfl⟩ : ∃ m, k = m + 1 := ⟨k - 1, by omega⟩
    have hlt : i < l.length := by omega
    rw [limbeckref01_Kept.l1, if_pos (by omega), if_pos (by omega), rdOf_nat _ _ _ hlt, wr_succ (by omega), ih (i + 1) m (by omega) (by omega), drop_head l i hlt]
    by_cases e : l[i].toList = x.toList
    · rw [if_pos e, if_pos (by rw [← bytes_ext e]; exact List.mem_cons_self)]
    · rw [if_neg e]
      have : x.data.toList ∈ bl (l[i] :: l.drop (i + 1)) ↔ x.data.toList ∈ bl (l.drop (i + 1)) := by
        rw [show bl (l[i] :: l.drop (i + 1)) = l[i].data.toList :: bl (l.drop (i + 1)) from rfl, List.mem_cons]
        exact ⟨fun h => h.resolve_left (fun h => e (by rw [ByteArray.toList_eq, ByteArray.toList_eq, h])), .inr⟩
      simp only [this]
theorem kept_l0 (x : ByteArray) (l : List ByteArray) (hl : l.length ≤ 100) : ∀ n i k, i + n = l.length → n + 6 ≤ k → limbeckref01_Kept.l0 k x l (i : Int) = some (if x.data.toList ∈ bl (l.drop i) then 3 else if x.data.toList ∈ bl [⟨#[73, 110, 116]⟩, ⟨#[66, 111, 111, 108]⟩, ⟨#[83, 116, 114, 105, 110, 103]⟩, ⟨#[84, 111, 112]⟩] then 4 else 0) := by
  intro n
  induction n with
  | zero =>
    intro i k hi hk
    obtain ⟨m, rfl⟩ : ∃ m, k = m + 1 := ⟨k - 1, by omega⟩
    rw [limbeckref01_Kept.l0, if_neg (by omega), List.drop_of_length_le (by omega)]
    have := kept_l1 x [⟨#[73, 110, 116]⟩, ⟨#[66, 111, 111, 108]⟩, ⟨#[83, 116, 114, 105, 110, 103]⟩, ⟨#[84, 111, 112]⟩] (by simp) 4 0 m rfl (by omega)
    rw [List.drop_zero] at this
    rw [if_neg (show ¬ x.data.toList ∈ bl [] from List.not_mem_nil)]
    exact this
  | succ n ih =>
    intro i k hi hk
    obtain ⟨m, rfl⟩ : ∃ m, k = m + 1 := ⟨k - 1, by omega⟩
    have hlt : i < l.length := by omega
    rw [limbeckref01_Kept.l0, if_pos (by omega), if_pos (by omega), rdOf_nat _ _ _ hlt, wr_succ (by omega), ih (i + 1) m (by omega) (by omega), drop_head l i hlt]
    by_cases e : l[i].toList = x.toList
    · rw [if_pos e, if_pos (by rw [← bytes_ext e]; exact List.mem_cons_self)]
    · rw [if_neg e]
      have : x.data.toList ∈ bl (l[i] :: l.drop (i + 1)) ↔ x.data.toList ∈ bl (l.drop (i + 1)) := by
        rw [show bl (l[i] :: l.drop (i + 1)) = l[i].data.toList :: bl (l.drop (i + 1)) from rfl, List.mem_cons]
        exact ⟨fun h => h.resolve_left (fun h => e (by rw [ByteArray.toList_eq, ByteArray.toList_eq, h])), .inr⟩
      simp only [this]
theorem kept_ref (x : ByteArray) (k : Nat) (hk : 16 ≤ k) : limbeckref01_Kept.f k x = some (if x.data.toList ∈ keptL then 3 else if x.data.toList ∈ wordL then 4 else 0) := by
  unfold limbeckref01_Kept.f
  have h := kept_l0 x [⟨#[108, 101, 116]⟩, ⟨#[105, 110]⟩, ⟨#[105, 102]⟩, ⟨#[116, 104, 101, 110]⟩, ⟨#[101, 108, 115, 101]⟩, ⟨#[102, 110]⟩, ⟨#[99, 97, 108, 108]⟩, ⟨#[100, 101, 102]⟩, ⟨#[116, 114, 117, 101]⟩, ⟨#[102, 97, 108, 115, 101]⟩] (by simp) 10 0 k rfl (by omega)
  rw [List.drop_zero] at h
  refine h.trans ?_
  rw [show keptL = bl [⟨#[108, 101, 116]⟩, ⟨#[105, 110]⟩, ⟨#[105, 102]⟩, ⟨#[116, 104, 101, 110]⟩, ⟨#[101, 108, 115, 101]⟩, ⟨#[102, 110]⟩, ⟨#[99, 97, 108, 108]⟩, ⟨#[100, 101, 102]⟩, ⟨#[116, 114, 117, 101]⟩, ⟨#[102, 97, 108, 115, 101]⟩] from rfl, show wordL = bl [⟨#[73, 110, 116]⟩, ⟨#[66, 111, 111, 108]⟩, ⟨#[83, 116, 114, 105, 110, 103]⟩, ⟨#[84, 111, 112]⟩] from rfl]

theorem bt_nat (x : ByteArray) (i : Nat) (h : i < x.size) : bt x (i : Int) = ((x[i]'h).toNat : Int) := by simp [bt, h]
theorem low_ref (c : Nat) : limbeckref01_Low.f (c : Int) = some (lowB c) := by
  unfold limbeckref01_Low.f lowB
  by_cases h : 97 ≤ c
  · rw [if_pos (by omega)]; congr 1; simp [h]; omega
  · rw [if_neg (by omega)]; simp [h]
theorem up_ref (c : Nat) : limbeckref01_Up.f (c : Int) = some (upB c) := by
  unfold limbeckref01_Up.f upB
  by_cases h : 65 ≤ c
  · rw [if_pos (by omega)]; congr 1; simp [h]; omega
  · rw [if_neg (by omega)]; simp [h]
theorem dig_ref (c : Nat) : limbeckref01_Digit.f (c : Int) = some (digB c) := by
  unfold limbeckref01_Digit.f digB
  by_cases h : 48 ≤ c
  · rw [if_pos (by omega)]; congr 1; simp [h]; omega
  · rw [if_neg (by omega)]; simp [h]
theorem drop_b (s : ByteArray) (k : Nat) (h : k < s.size) : s.data.toList.drop k = (s[k]'h) :: s.data.toList.drop (k + 1) := by
  rw [List.drop_eq_getElem_cons (by simpa using h)]; rfl
theorem restN_0 (r : List UInt8) : restN 0 r = 0 := by unfold restN; split <;> rfl
theorem kind_l0 (x : ByteArray) (hx : x.size ≤ 8) (q : Int) (hq : q = 0 ∨ q = 1 ∨ q = 2) : ∀ n i k, i + n = x.size → n < k → limbeckref01_Kind.l0 k x q (i : Int) = some (restN q (x.data.toList.drop i)) := by
  intro n
  induction n with
  | zero =>
    intro i k hi hk
    obtain ⟨m, rfl⟩ : ∃ m, k = m + 1 := ⟨k - 1, by omega⟩
    rw [limbeckref01_Kind.l0, if_neg (by omega), List.drop_of_length_le (by simpa using (show x.size ≤ i by omega))]
    simp [restN]
  | succ n ih =>
    intro i k hi hk
    obtain ⟨m, rfl⟩ : ∃ m, k = m + 1 := ⟨k - 1, by omega⟩
    have hlt : i < x.size := by omega
    rw [limbeckref01_Kind.l0, if_pos (by omega), if_pos (by omega), bt_nat x i hlt, dig_ref, low_ref, up_ref, wr_succ (by omega), ih (i + 1) m (by omega) (by omega), drop_b x i hlt, restN_cons]
    simp only [Option.bind_some]
    cases h1 : digB (x[i]'hlt).toNat <;> cases h2 : lowB (x[i]'hlt).toNat <;> cases h3 : upB (x[i]'hlt).toNat <;> rcases hq with rfl | rfl | rfl <;> simp [restN_0]
theorem kind_ref (x : ByteArray) (k : Nat) (hk : 32 ≤ k) : limbeckref01_Kind.f k x = some (kindN x.data.toList) := by
  unfold limbeckref01_Kind.f kindN
  rw [kept_ref x k (by omega), Option.bind_some]
  by_cases h1 : x.data.toList ∈ keptL
  · simp only [if_pos h1]; rfl
  · simp only [if_neg h1]
    by_cases h2 : x.data.toList ∈ wordL
    · simp only [if_pos h2]; rfl
    · simp only [if_neg h2]
      rw [if_pos trivial]
      obtain ⟨m, rfl⟩ : ∃ m, k = m + 4 := ⟨k - 4, by omega⟩
      have hlen : x.data.toList.length = x.size := by simp
      unfold shapeN
      by_cases h3 : x.size < 1
      · have : x.data.toList = [] := List.eq_nil_of_length_eq_zero (by omega)
        rw [if_pos (by omega), limbeckref01_Kind.j0, if_pos rfl, this]
        rfl
      · rw [if_neg (by omega)]
        by_cases h4 : 8 < x.size
        · rw [if_pos (by omega), limbeckref01_Kind.j0, if_pos (by simp; omega)]
        · rw [if_neg (by omega), limbeckref01_Kind.j0, if_neg (by simp; omega), if_pos (by omega)]
          have h0 : 0 < x.size := by omega
          have hb := bt_nat x 0 h0
          have hd := drop_b x 0 h0
          rw [List.drop_zero] at hd
          have hs : shapeS 0 0 x.data.toList = if lowB (x[0]'h0).toNat then restN 1 (x.data.toList.drop 1) else if upB (x[0]'h0).toNat then restN 2 (x.data.toList.drop 1) else 0 := by rw [hd]; rfl
          rw [hs, show bt x 0 = bt x ((0 : Nat) : Int) from rfl, hb, low_ref, Option.bind_some]
          have hl := fun q hq => kind_l0 x (by omega) q hq (x.size - 1) 1 (m + 1) (by omega) (by omega)
          cases e1 : lowB (x[0]'h0).toNat
          · simp only [Bool.false_eq_true, if_false]
            rw [limbeckref01_Kind.j1, if_pos (by omega), show bt x 0 = bt x ((0 : Nat) : Int) from rfl, hb, up_ref, Option.bind_some]
            cases e2 : upB (x[0]'h0).toNat
            · simp only [Bool.false_eq_true, if_false]
              rw [limbeckref01_Kind.j2]
              have := hl 0 (.inl rfl)
              rw [restN_0] at this
              exact this
            · simp only [if_true]
              rw [limbeckref01_Kind.j2]
              exact hl 2 (.inr (.inr rfl))
          · simp only [if_true]
            have e2 : upB (x[0]'h0).toNat = false := by unfold lowB at e1; unfold upB; simp at e1 ⊢; omega
            rw [limbeckref01_Kind.j1, if_pos (by omega), show bt x 0 = bt x ((0 : Nat) : Int) from rfl, hb, up_ref, Option.bind_some, e2]
            simp only [Bool.false_eq_true, if_false]
            rw [limbeckref01_Kind.j2]
            exact hl 1 (.inr (.inl rfl))
theorem fine_ref (x : ByteArray) (k : Nat) (hk : 32 ≤ k) : limbeckref01_Fine.f k x = some (fineN x.data.toList) := by
  unfold limbeckref01_Fine.f fineN
  rw [kind_ref x k hk, Option.bind_some]
theorem var_ref (x : ByteArray) (k : Nat) (hk : 32 ≤ k) : limbeckref01_Var.f k x = some (varN x.data.toList) := by
  unfold limbeckref01_Var.f varN
  rw [kind_ref x k hk, Option.bind_some]
theorem rfine_calls (x : ByteArray) (w : World) : Calls Try.prog 76 #[.string x] w fun e w' => e = .returned (.bool (fineN x.data.toList)) ∧ Below w.heap.size w w' :=
  limbeckref01_Fine.calls 32 x _ w (fine_ref x 32 (Nat.le_refl _))
end Go.Proofs.Ytkeeknlfommieaa.PF
namespace Go.Proofs.Ytkeeknlfommieaa.PF
open Go.RowKit Go.Proofs.YtkeeknlfommieaaW.PrintWords Go.Proofs.YtkeeknlfommieaaW.PrintLast Go.Proofs.YtkeeknlfommieaaW.PrintMore

structure BelowOf (wr : World) where
  w : World
  h : Below wr.heap.size wr w
instance (wr : World) : Inhabited (BelowOf wr) := ⟨⟨wr, Below.refl _ _⟩⟩
theorem wp_region_below {P : Program} {id : Nat} {Q : Exit → Act → World → Prop} {a : Act} {w : World} {l : List Oper} (wr : World) (hw : Below wr.heap.size wr w) (hm : P.follows .mixedOrders = true) (hB : Region.lexB .any l.toArray = true)
    (h : wpQuiet P l.toArray (fun w' => ∃ p : BelowOf wr, w' = p.w) (fun a' => ∀ w', (∃ p : BelowOf wr, w' = p.w) → Q .normal a' w') l a) : (Code.region id l.toArray true).wp P Q a w :=
  wp_region_quiet (C := fun w' => ∃ p : BelowOf wr, w' = p.w) hm hB ⟨⟨_, below_drew hw⟩, rfl⟩ (by simpa using h)
theorem BelowOf.cell {wr : World} {a : Addr} {v : Value} (h : wr.cell? a = some v) (p : BelowOf wr) : p.w.cell? a = some v := (p.h.cell (World.block_lt_of_cell? wr _ h)).trans h
theorem BelowOf.calls {P : Program} {f : FuncId} {args : Array Value} {wr : World} {p : BelowOf wr} {v : Value}
    (h : Calls P f args p.w fun e w' => e = .returned v ∧ Below p.w.heap.size p.w w') : Calls P f args p.w fun e w'' => e = .returned v ∧ ∃ q : BelowOf wr, w'' = q.w :=
  h.mono fun _ w' ⟨he, hb⟩ => ⟨he, ⟨w', p.h.trans (hb.mono p.h.size)⟩, rfl⟩
end Go.Proofs.Ytkeeknlfommieaa.PF
namespace Go.Proofs.Ytkeeknlfommieaa.PF
open Go.RowKit Go.Proofs.YtkeeknlfommieaaW.PrintWords Go.Proofs.YtkeeknlfommieaaW.PrintLast Go.Proofs.YtkeeknlfommieaaW.PrintMore

theorem rvar_calls (x : ByteArray) (w : World) : Calls Try.prog 55 #[.string x] w fun e w' => e = .returned (.bool (varN x.data.toList)) ∧ Below w.heap.size w w' :=
  limbeckref01_Var.calls 32 x _ w (var_ref x 32 (Nat.le_refl _))
theorem rfine_q {x : ByteArray} {b : Bool} (h : fineN x.data.toList = b) (w : World) : Calls Try.prog 76 #[.string x] w fun e w' => e = .returned (.bool b) ∧ Below w.heap.size w w' := by
  rw [← h]; exact rfine_calls x w
set_option maxRecDepth 100000 in
set_option maxHeartbeats 1000000 in
theorem rrising_calls (A : Option Addr) (c : Nat) (l : List ByteArray) (w : World) (hr : Kd.string.C w A l.length l) : Calls Try.prog 56 #[.slice A l.length c] w fun e w' => e = .returned (.bool (risingN (bl l))) ∧ Below w.heap.size w w' := by
  have HR := Aside0.mk hr
  have hlen := hr.2.1
  clear hr
  go_enter Try.func56, Try.ntmps56
  go_wp2_with fail
  go_loopg [3] l.length (fun gk i wr => ∃ k : Nat, i = .int .i64 k ∧ Aside0 (gk + k = l.length) ∧ Aside0 (∀ j, j < k → riseAt (bl l) j = true) ∧ Aside0 (Below w.heap.size w wr))
  case atStart => exact ⟨0, rfl, ⟨rfl⟩, ⟨fun j hj => absurd hj (Nat.not_lt_zero _)⟩, ⟨Below.refl _ _⟩⟩
  case round =>
    obtain ⟨k, rfl, HK, HI, HB⟩ := hrel
    by_cases hlt : k < l.length
    · have hltZ : ((k : Int) < (l.length : Int)) := by omega
      obtain ⟨ad, e, h0⟩ := elS HR.out k hlt
      cases e
      replace h0 := pw_cell_below HB.out h0
      have HLT := Aside0.mk hlt
      obtain ⟨bf, hbf⟩ : ∃ b, fineN (l[k]).data.toList = b := ⟨_, rfl⟩
      have HF := Aside0.mk hbf
      have HG := Aside0.mk (bl_getD l k hlt)
      cases bf with
      | false =>
        have HX := Aside0.mk (show risingN (bl l) = false from allUp_no (k := k) (by rw [bl_length]; exact hlt) (by unfold riseAt; rw [HG.out, hbf]; rfl))
        have c0 := BelowOf.cell h0
        clear hbf h0
        go_wp2_with (fail)
        refine wp_region_below wr (Below.refl _ _) (by kernel_rfl) (by kernel_rfl) ?_
        repeat (first | go_big_quiet_step ((go_at_call 76; exact BelowOf.calls (rfine_q HF.out _))) | quiet_step ((go_at_call 76; exact BelowOf.calls (rfine_q HF.out _))))
        refine wpQuiet_nil ?_
        intro _ hw'
        obtain ⟨px, hw''⟩ := hw'
        subst hw''
        go_wp2
        go_ret
        exact ⟨ret_bool HX.out.symm, HB.out.trans (px.h.mono HB.out.size)⟩
      | true =>
        clear hbf
        by_cases hk0 : k = 0
        · subst hk0
          have HX := Aside0.mk (show riseAt (bl l) 0 = true from by unfold riseAt; rw [HG.out, HF.out]; simp)
          have h0' : wr.cell? ad = some (.string l[0]) := by simpa [Addr.add] using h0
          have c0 := BelowOf.cell h0'
          clear h0 h0'
          go_wp2_with (fail)
          refine wp_region_below wr (Below.refl _ _) (by kernel_rfl) (by kernel_rfl) ?_
          repeat (first | go_big_quiet_step ((go_at_call 76; exact BelowOf.calls (rfine_q HF.out _))) | quiet_step ((go_at_call 76; exact BelowOf.calls (rfine_q HF.out _))))
          refine wpQuiet_nil ?_
          intro _ hw'
          obtain ⟨px, hw''⟩ := hw'
          subst hw''
          go_wp2
          go_roundg (gk - 1)
          case measure => have := HK.out; have := HLT.out; omega
          case rel => exact ⟨0 + 1, by go_num, ⟨by have := HK.out; have := HLT.out; omega⟩, ⟨upTo_step HI.out HX.out⟩, ⟨HB.out.trans (px.h.mono HB.out.size)⟩⟩
        · have hz : ((0 : Int) < (k : Int)) := by omega
          obtain ⟨ad', e', h1⟩ := elS HR.out (k - 1) (by omega)
          cases e'
          have HP := Aside0.mk (bl_getD l (k - 1) (by omega))
          have hc1 : ((k : Int) - 1).toNat = k - 1 := by omega
          have hk1 : (0 : Int) ≤ (k : Int) - 1 := by omega
          have hk1' : (1 : Int) ≤ (k : Int) := by omega
          have hzd : decide (0 < k) = true := by simp; omega
          have hk2 : (k : Int) - 1 < (l.length : Int) := by omega
          have HK0 := Aside0.mk hk0
          clear hk0
          replace h1 := pw_cell_below HB.out h1
          obtain ⟨b, hb⟩ : ∃ b, Op.bytesLess (l[k - 1]).toList (l[k]).toList = b := ⟨_, rfl⟩
          have HL := Aside0.mk (show riseAt (bl l) k = b from by
            unfold riseAt; rw [HG.out, HF.out, HP.out, ← toList_eq, ← toList_eq, hb]; simp [HK0.out])
          have c0 := BelowOf.cell h0
          have c1 := BelowOf.cell h1
          clear h0 h1
          have HB2 := Aside0.mk hb
          cases b with
          | false =>
            have HX := Aside0.mk (show risingN (bl l) = false from allUp_no (k := k) (by rw [bl_length]; exact HLT.out) HL.out)
            go_wp2_with (fail)
            refine wp_region_below wr (Below.refl _ _) (by kernel_rfl) (by kernel_rfl) ?_
            repeat (first | go_big_quiet_step ((go_at_call 76; exact BelowOf.calls (rfine_q HF.out _))) | quiet_step ((go_at_call 76; exact BelowOf.calls (rfine_q HF.out _))))
            refine wpQuiet_nil ?_
            intro _ hw'
            obtain ⟨px, hw''⟩ := hw'
            subst hw''
            go_wp2
            go_ret
            exact ⟨ret_bool HX.out.symm, HB.out.trans (px.h.mono HB.out.size)⟩
          | true =>
            go_wp2_with (fail)
            refine wp_region_below wr (Below.refl _ _) (by kernel_rfl) (by kernel_rfl) ?_
            repeat (first | go_big_quiet_step ((go_at_call 76; exact BelowOf.calls (rfine_q HF.out _))) | quiet_step ((go_at_call 76; exact BelowOf.calls (rfine_q HF.out _))))
            refine wpQuiet_nil ?_
            intro _ hw'
            obtain ⟨px, hw''⟩ := hw'
            subst hw''
            go_wp2
            go_roundg (gk - 1)
            case measure => have := HK.out; have := HLT.out; omega
            case rel => exact ⟨k + 1, by go_num, ⟨by have := HK.out; have := HLT.out; omega⟩, ⟨upTo_step HI.out HL.out⟩, ⟨HB.out.trans (px.h.mono HB.out.size)⟩⟩
    · have hltz : ¬ (k : Int) < (l.length : Int) := by omega
      have HKE := Aside0.mk (show k = l.length from by have := HK.out; omega)
      have HX := Aside0.mk (show risingN (bl l) = true from allUp_yes (fun j hj => HI.out j (by rw [bl_length] at hj; rw [HKE.out]; exact hj)))
      go_wp2
      go_ret
      exact ⟨ret_bool HX.out.symm, HB.out⟩
end Go.Proofs.Ytkeeknlfommieaa.PF
