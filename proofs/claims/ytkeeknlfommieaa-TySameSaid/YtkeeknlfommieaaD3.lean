/- ty.Rec: words. -/
import Derived.Test.YtkeeknlfommieaaD2
import Derived.Test.YtkeeknlfommieaaB9
import Derived.Test.YtkeeknlfommieaaB7
import Derived.Shelf.SlSortFuncK.ComposeK
namespace Go.Proofs.Ytkeeknlfommieaa.PF
open Go.RowKit Go.Shelf Go.Sort Go.Proofs.YtkeeknlfommieaaW.PrintWords Go.Proofs.YtkeeknlfommieaaW.PrintLast Go.Proofs.YtkeeknlfommieaaW.PrintMore

theorem info89 : (Try.prog.info? 89).map (fun i => (i.zero, i.size, i.bytes)) = some (some (.agg #[(.string ⟨#[]⟩), (.int .i64 0), (.int .i64 0), (.string ⟨#[]⟩), (.slice none 0 0), (.slice none 0 0)]), 6, 96) := by kernel_rfl

/-- The fields that two lists of the same length make, as their cells hold them. -/
structure Fields (w : World) (A B : Option Addr) (ls : List ByteArray) (ar : List S26) (es : List FE) : Prop where
  l : es.map FE.l = ls
  x : es.map (fun e => e.v.x) = ar
  rt : ∀ e ∈ es, RT w e.v.enc e.v.x
  cl : ∀ (i : Nat) (hi : i < es.length), ∃ ad bd, A = some ad ∧ B = some bd ∧ w.cell? (ad.add i) = some (.string es[i].l) ∧ w.cell? (bd.add (i * 5)) = some (.int .i64 es[i].v.x.f0) ∧ w.cell? ⟨(bd.add (i * 5)).block, (bd.add (i * 5)).off + 1, none⟩ = some (.int .i64 es[i].v.x.f1) ∧ w.cell? ⟨(bd.add (i * 5)).block, (bd.add (i * 5)).off + 2, none⟩ = some (.string es[i].v.x.f2) ∧ w.cell? ⟨(bd.add (i * 5)).block, (bd.add (i * 5)).off + 3, none⟩ = some (.slice es[i].v.A3 es[i].v.x.f3.length es[i].v.c3) ∧ w.cell? ⟨(bd.add (i * 5)).block, (bd.add (i * 5)).off + 4, none⟩ = some (.slice es[i].v.A4 es[i].v.x.f4.length es[i].v.c4)
theorem fields_of {w : World} {A B : Option Addr} {ls : List ByteArray} {ar : List S26} (h3 : Kd.string.C w A ls.length ls) (h4 : k26.C w B ar.length ar) (hl : ls.length = ar.length) : ∃ es, Fields w A B ls ar es := by
  have hf : ∀ i : Fin ar.length, ∃ v : NV, v.x = ar[i.val] ∧ RT w v.enc v.x ∧ ∃ bd, B = some bd ∧ w.cell? (bd.add (i.val * 5)) = some (.int .i64 v.x.f0) ∧ w.cell? ⟨(bd.add (i.val * 5)).block, (bd.add (i.val * 5)).off + 1, none⟩ = some (.int .i64 v.x.f1) ∧ w.cell? ⟨(bd.add (i.val * 5)).block, (bd.add (i.val * 5)).off + 2, none⟩ = some (.string v.x.f2) ∧ w.cell? ⟨(bd.add (i.val * 5)).block, (bd.add (i.val * 5)).off + 3, none⟩ = some (.slice v.A3 v.x.f3.length v.c3) ∧ w.cell? ⟨(bd.add (i.val * 5)).block, (bd.add (i.val * 5)).off + 4, none⟩ = some (.slice v.A4 v.x.f4.length v.c4) := by
    intro i
    obtain ⟨ad, A3, c3, A4, c4, e, h0, h1, h2, h3', h4', l3, g3, l4, g4⟩ := el26 h4 i.val i.isLt
    exact ⟨⟨ar[i.val], A3, c3, A4, c4⟩, rfl, ⟨A3, c3, A4, c4, rfl, l3, g3, l4, g4⟩, ad, e, h0, h1, h2, h3', h4'⟩
  have hf2 := fun i => Classical.choose_spec (hf i)
  obtain ⟨f, hff⟩ : ∃ f : Fin ar.length → NV, ∀ i, f i = Classical.choose (hf i) := ⟨_, fun _ => rfl⟩
  simp only [← hff] at hf2
  refine ⟨List.ofFn fun i : Fin ar.length => ⟨ls[i.val]'(by omega), f i⟩, ?_, ?_, ?_, ?_⟩
  · apply List.ext_getElem
    · simp [hl]
    · intro i h1 h2; simp
  · apply List.ext_getElem
    · simp
    · intro i h1 h2; simp [(hf2 _).1]
  · intro e he
    obtain ⟨i, rfl⟩ := List.mem_ofFn.1 he
    exact (hf2 i).2.1
  · intro i hi
    have hi' : i < ar.length := by simpa using hi
    obtain ⟨ad, e1, h1⟩ := elS h3 i (by omega)
    obtain ⟨bd, e2, h2⟩ := (hf2 ⟨i, hi'⟩).2.2
    refine ⟨ad, bd, e1, e2, ?_, ?_⟩
    · simpa using h1
    · simpa using h2
theorem Fields.len {w : World} {A B : Option Addr} {ls : List ByteArray} {ar : List S26} {es : List FE} (h : Fields w A B ls ar es) : es.length = ls.length ∧ es.length = ar.length := by
  rw [← h.l, ← h.x]; simp

theorem flat_get (es : List FE) : ∀ t, t < es.length * 6 → (es.flatMap FE.enc)[t]! = (FE.enc (es.toArray[t / 6]!))[t % 6]! := by
  induction es with
  | nil => intro t h; simp at h
  | cons e es ih =>
    intro t h
    rw [List.flatMap_cons]
    by_cases ht : t < 6
    · rw [show t / 6 = 0 by omega, show t % 6 = t by omega]
      simp only [getElem!_def, List.getElem?_append_left (show t < e.enc.length from ht)]
      simp
    · obtain ⟨s, rfl⟩ : ∃ s, t = s + 6 := ⟨t - 6, by omega⟩
      have := ih s (by simp at h; omega)
      rw [show (s + 6) / 6 = s / 6 + 1 by omega, show (s + 6) % 6 = s % 6 by omega]
      simp only [getElem!_def] at this ⊢
      rw [List.getElem?_append_right (show e.enc.length ≤ s + 6 by show 6 ≤ s + 6; omega), show s + 6 - e.enc.length = s from Nat.add_sub_cancel s 6, this]
      simp
theorem own_holds {W : World} {base g n cap : Nat} {es : List FE} (h : W.ownsRow base 89 6 (.slice (some ⟨g, 0, none⟩) n cap) n (es.flatMap FE.enc)) (hn : es.length = n) : HoldsK FE.enc 6 W g 0 es.toArray ∧ g < W.heap.size := by
  refine ⟨?_, (h.lt g rfl).2⟩
  intro j hj
  have hj' : j < n * 6 := by simpa [hn] using hj
  rw [Nat.zero_add, h.cellAt j hj', h.frozenAt j]
  refine ⟨?_, rfl⟩
  rw [get_flatK _ _ _ _ (by simpa [hn] using hj'), ← flat_get es j (by omega)]
  have hl : j < (es.flatMap FE.enc).length := by rw [h.1]; exact hj'
  rw [List.getElem?_eq_getElem hl]
  show some _ = some ((es.flatMap FE.enc)[j]!)
  rw [getElem!_pos (es.flatMap FE.enc) j hl]
theorem grownBy_sortK {α : Type} [Inhabited α] {enc : α → List Value} {kk : Nat} (w : World) (q g : Nat) (d : Array α) (os : Array Obj) : w.grownBy (sortWorldK enc kk w g 0 q d os) (some g) := by
  unfold sortWorldK putRowK
  refine ⟨rfl, rfl, rfl, by simp [putRow, mapBlock, Sort.ahead, grow], fun k hk hne => ?_⟩
  have : g ≠ k := fun e => hne (by rw [e])
  have hk' : k < (putRow id (Sort.ahead w q) g 0 (flatK enc kk d)).heap.size := by simpa [putRow, mapBlock, Sort.ahead] using hk
  simp only [grow]
  rw [Array.getElem?_append_left hk']
  simp [putRow, mapBlock, Sort.ahead, Array.getElem?_modify, this]
theorem cS_of_own {w : World} {base n : Nat} {v : Value} {ls : List ByteArray} (h : w.ownsRow base 9 1 v n (ls.map Value.string)) : ∃ A c, v = .slice A n c ∧ n ≤ c ∧ Kd.string.C w A n ls := by
  have := c_of_own (ls := ls.map fun s => s.data.toList) (by rw [List.map_map]; exact h)
  rw [List.map_map] at this
  obtain ⟨A, c, e, hl, hC⟩ := this
  refine ⟨A, c, e, hl, ?_⟩
  have he : (List.map ((fun l => (⟨l.toArray⟩ : ByteArray)) ∘ fun s => s.data.toList) ls) = ls := by
    conv => rhs; rw [← List.map_id ls]
    exact List.map_congr_left fun s _ => rfl
  rwa [he] at hC

def FE.enc5 (e : FE) : List Value := [.int .i64 e.v.x.f0, .int .i64 e.v.x.f1, .string e.v.x.f2, .slice e.v.A3 e.v.x.f3.length e.v.c3, .slice e.v.A4 e.v.x.f4.length e.v.c4]
theorem flat5_get (es : List FE) : ∀ (j : Nat) (hj : j < es.length) (i : Nat), i < 5 → (es.flatMap FE.enc5)[j * 5 + i]? = (es[j].enc5)[i]? := by
  induction es with
  | nil => intro j h; simp at h
  | cons e es ih =>
    intro j hj i hi
    rw [List.flatMap_cons]
    cases j with
    | zero => rw [List.getElem?_append_left (by show 0 * 5 + i < 5; omega)]; simp
    | succ j =>
      rw [List.getElem?_append_right (by show 5 ≤ (j + 1) * 5 + i; omega), show (j + 1) * 5 + i - e.enc5.length = j * 5 + i by show (j + 1) * 5 + i - 5 = j * 5 + i; omega]
      simpa using ih j (by simpa using hj) i hi
theorem c26_of_own {w : World} {base n : Nat} {v : Value} {es : List FE} (h : w.ownsRow base 26 5 v n (es.flatMap FE.enc5)) (hn : es.length = n) (hmax : n ≤ 9223372036854775807) (hrt : ∀ e ∈ es, RT w e.v.enc e.v.x) : ∃ A c, v = .slice A n c ∧ n ≤ c ∧ k26.C w A n (es.map fun e => e.v.x) := by
  rcases h.2 with ⟨rfl, h0⟩ | ⟨g, cap, cur, rfl, _, hg, h1, h2, h3, h4⟩
  · subst h0
    obtain rfl : es = [] := List.eq_nil_of_length_eq_zero hn
    exact ⟨none, 0, rfl, Nat.le_refl _, Kd.C_nil _ _⟩
  · refine ⟨_, cap, rfl, h1, by simp [hn], hmax, fun _ => ⟨_, rfl, fun j p hj => ?_⟩⟩
    obtain ⟨hjl, hp⟩ := List.getElem?_eq_some_iff.1 hj
    have hjl' : j < es.length := by simpa using hjl
    rw [List.getElem_map] at hp
    subst hp
    obtain ⟨A3, c3, A4, c4, e, l3, g3, l4, g4⟩ := hrt es[j] (List.getElem_mem hjl')
    simp [NV.enc] at e
    obtain ⟨⟨rfl, rfl⟩, rfl, rfl⟩ := e
    refine ⟨es[j].enc5, rfl, k26_mk w es[j].v.x l3 g3 l4 g4, fun i u hu => ?_⟩
    have hi : i < 5 := by have := (List.getElem?_eq_some_iff.1 hu).1; exact this
    rw [show (⟨g, 0, none⟩ : Addr).add (j * k26.sz + i) = ⟨g, j * 5 + i, none⟩ from add_plain g _]
    rw [h.cellAt (j * 5 + i) (by omega), flat5_get es j hjl' i hi]
    exact hu
theorem row_ne {w : World} {b b' : Nat} {e e' : TypeId} {s s' n n' : Nat} {v v' : Value} {xs xs' : List Value} (h : w.ownsRow b e s v n xs) (h' : w.ownsRow b' e' s' v' n' xs') (hne : e ≠ e') : v.ownBlock = none ∨ v.ownBlock ≠ v'.ownBlock := by
  rcases hv : v.ownBlock with _ | k
  · exact .inl rfl
  · refine .inr fun e => ?_
    obtain ⟨c, hc⟩ := own_typed h k hv
    obtain ⟨c', hc'⟩ := own_typed h' k e.symm
    rw [hc] at hc'
    injection hc' with hc'
    injection hc' with _ h2 _
    exact hne h2

/-- What the sort leaves: a row of fields at A, in the order of their labels. -/
structure Row (W W2 : World) (base : Nat) (A : Option Addr) (es es' : List FE) : Prop where
  low : Below base W W2
  perm : es'.Perm es
  sorted : es'.Pairwise fun a b => ¬ b.l.data.toList < a.l.data.toList
  cl : ∀ (i : Nat) (hi : i < es'.length), ∃ ad, A = some ad ∧ W2.cell? (ad.add (i * 6)) = some (.string es'[i].l) ∧ W2.cell? ⟨(ad.add (i * 6)).block, (ad.add (i * 6)).off + 1, none⟩ = some (.int .i64 es'[i].v.x.f0) ∧ W2.cell? ⟨(ad.add (i * 6)).block, (ad.add (i * 6)).off + 2, none⟩ = some (.int .i64 es'[i].v.x.f1) ∧ W2.cell? ⟨(ad.add (i * 6)).block, (ad.add (i * 6)).off + 3, none⟩ = some (.string es'[i].v.x.f2) ∧ W2.cell? ⟨(ad.add (i * 6)).block, (ad.add (i * 6)).off + 4, none⟩ = some (.slice es'[i].v.A3 es'[i].v.x.f3.length es'[i].v.c3) ∧ W2.cell? ⟨(ad.add (i * 6)).block, (ad.add (i * 6)).off + 5, none⟩ = some (.slice es'[i].v.A4 es'[i].v.x.f4.length es'[i].v.c4)
theorem add_off (g m c : Nat) : (⟨((⟨g, 0, none⟩ : Addr).add m).block, ((⟨g, 0, none⟩ : Addr).add m).off + c, none⟩ : Addr) = ⟨g, 0 + m + c, none⟩ := by rw [add_plain]; simp
theorem sort_any {hi : Nat} (hs : SortOK hi) {W : World} {base n : Nat} {v : Value} {es : List FE} (hO : W.ownsRow base 89 6 v n (es.flatMap FE.enc)) (hlen : es.length = n) (hn : n ≤ hi) (hnil : n = 0 → v = .slice none 0 0) (hbase : base ≤ W.heap.size) :
    ∃ A cap, v = .slice A n cap ∧ Calls Try.prog 74 #[.slice A n cap, .func (.func 75) #[] #[]] W fun e W2 => e = .returned (.tuple #[]) ∧ ∃ es', Row W W2 base A es es' := by
  by_cases h0 : n = 0
  · obtain rfl : es = [] := List.eq_nil_of_length_eq_zero (by omega)
    subst h0
    refine ⟨none, 0, hnil rfl, (sort_none 0 W).mono ?_⟩
    rintro e w' ⟨rfl, rfl⟩
    exact ⟨rfl, [], Below.refl _ _, List.Perm.refl _, List.Pairwise.nil, fun i hi => by simp at hi⟩
  · rcases hO.2 with ⟨_, h⟩ | ⟨g, cap, cur, rfl, hg, _⟩
    · exact absurd h h0
    · obtain ⟨hH, hlt⟩ := own_holds hO hlen
      have hd : es.toArray.size = n := by simp [hlen]
      have hc := hs g cap es.toArray W hH hlt (by omega) (by omega)
      rw [hd] at hc
      refine ⟨some ⟨g, 0, none⟩, cap, rfl, hc.mono ?_⟩
      rintro e w' ⟨rfl, d', q, os, hP, hS, rfl⟩
      have hsz : d'.size = n := by rw [hP.1]; exact hd
      refine ⟨rfl, d'.toList, ?_, ?_, ?_, ?_⟩
      · exact (Below.refl base W).grown (grownBy_sortK _ _ _ _ _) hbase (fun j hj => by cases hj; exact hg)
      · have h1 := hP.2.2
        rw [Array.extract_eq_self_of_le (by omega), Array.extract_eq_self_of_le (by omega)] at h1
        exact h1
      · rw [List.pairwise_iff_getElem]
        intro i j hi hj hij
        have h1 := hS i j (Nat.zero_le _) hij (by simpa [hsz, hlen] using hj)
        rw [ltcf, decide_eq_false_iff_not] at h1
        have hi' : i < d'.size := by simpa using hi
        have hj' : j < d'.size := by simpa using hj
        simpa [getElem!_pos d' i hi', getElem!_pos d' j hj'] using h1
      · intro i hi
        have hi' : i < d'.size := by simpa using hi
        have hH2 := holdsK_sortWorldK FE.enc 6 W g 0 q es.toArray d' os hlt hH (by rw [hsz, hd])
        have hcl : ∀ c, c < 6 → (sortWorldK FE.enc 6 W g 0 q d' os).cell? ⟨g, 0 + i * 6 + c, none⟩ = some (FE.enc d'[i]!)[c]! := fun c hc => (hH2.cell hi' hc).1
        have he : d'[i]! = d'.toList[i] := by simp [getElem!_pos d' i hi']
        rw [he] at hcl
        refine ⟨_, rfl, ?_, ?_, ?_, ?_, ?_, ?_⟩
        · have h_ := hcl 0 (by omega); rw [show 0 + i * 6 + 0 = i * 6 by omega] at h_; rw [add_plain]; exact h_
        · rw [add_off]; exact hcl 1 (by omega)
        · rw [add_off]; exact hcl 2 (by omega)
        · rw [add_off]; exact hcl 3 (by omega)
        · rw [add_off]; exact hcl 4 (by omega)
        · rw [add_off]; exact hcl 5 (by omega)

theorem grownBy_set (w : World) (g i : Nat) (u : Value) : w.grownBy (w.setCell ⟨g, i, none⟩ u) (some g) :=
  ⟨rfl, rfl, rfl, by simp, fun k _ hne => Below.heap_setCell w ⟨g, i, none⟩ u k (fun e => hne (by rw [e]))⟩
theorem own_far {w : World} {T : Nat} {e : TypeId} {size n : Nat} {v : Value} {xs : List Value} (h : w.ownsRow (T + 1) e size v n xs) : v.ownBlock = none ∨ v.ownBlock ≠ some T := by
  rcases hv : v.ownBlock with _ | k
  · exact .inl rfl
  · refine .inr fun e => ?_
    injection e with e
    have := (h.lt k hv).1
    omega
/-- A round of the record's second loop: both rows one longer. -/
theorem round2 {W2 wr w1 w2 : World} {T k g1 cap1 g2 cap2 : Nat} {vL vA : Value} {xl xa nl na : List Value} {o : Obj} {a b c : Value}
    (HB2 : Below T W2 wr) (HSZ : T + 1 ≤ wr.heap.size) (HTB : wr.heap[T]? = some (.cells #[a, b, c, vL, vA] 26 (0, 0))) (HVL : wr.ownsRow (T + 1) 9 1 vL k xl) (HVA : wr.ownsRow (T + 1) 26 5 vA k xa)
    (HO1 : w1.ownsRow (T + 1) 9 1 (.slice (some ⟨g1, 0, none⟩) (k + 1) cap1) (k + 1) nl) (HB1 : Below (T + 1) (wr.alloc o) w1) (HG1 : (wr.alloc o).grownBy w1 vL.ownBlock)
    (HO2 : w2.ownsRow (T + 1) 26 5 (.slice (some ⟨g2, 0, none⟩) (k + 1) cap2) (k + 1) na) (HB3 : Below (T + 1) (w1.setCell ⟨T, 3, none⟩ (.slice (some ⟨g1, 0, none⟩) (k + 1) cap1)) w2) (HG2 : (w1.setCell ⟨T, 3, none⟩ (.slice (some ⟨g1, 0, none⟩) (k + 1) cap1)).grownBy w2 vA.ownBlock) :
    (w2.setCell ⟨T, 4, none⟩ (.slice (some ⟨g2, 0, none⟩) (k + 1) cap2)).heap[T]? = some (.cells #[a, b, c, .slice (some ⟨g1, 0, none⟩) (k + 1) cap1, .slice (some ⟨g2, 0, none⟩) (k + 1) cap2] 26 (0, 0))
    ∧ (w2.setCell ⟨T, 4, none⟩ (.slice (some ⟨g2, 0, none⟩) (k + 1) cap2)).ownsRow (T + 1) 9 1 (.slice (some ⟨g1, 0, none⟩) (k + 1) cap1) (k + 1) nl
    ∧ (w2.setCell ⟨T, 4, none⟩ (.slice (some ⟨g2, 0, none⟩) (k + 1) cap2)).ownsRow (T + 1) 26 5 (.slice (some ⟨g2, 0, none⟩) (k + 1) cap2) (k + 1) na
    ∧ Below T W2 (w2.setCell ⟨T, 4, none⟩ (.slice (some ⟨g2, 0, none⟩) (k + 1) cap2)) ∧ T + 1 ≤ (w2.setCell ⟨T, 4, none⟩ (.slice (some ⟨g2, 0, none⟩) (k + 1) cap2)).heap.size := by
  have hT1 : w1.heap[T]? = some (.cells #[a, b, c, vL, vA] 26 (0, 0)) := (HB1.block T (Nat.lt_succ_self T)).trans (blk_alloc HTB _)
  have hT2 := blk_put hT1 3 (.slice (some ⟨g1, 0, none⟩) (k + 1) cap1) rfl
  have hT3 := (HB3.block T (Nat.lt_succ_self T)).trans hT2
  have hA1 := ((HVA.alloc o).kept HG1 (row_ne HVA HVL (by decide))).kept (grownBy_set w1 T 3 (.slice (some ⟨g1, 0, none⟩) (k + 1) cap1)) (own_far HVA)
  have hL1 := HO1.kept (grownBy_set w1 T 3 (.slice (some ⟨g1, 0, none⟩) (k + 1) cap1)) (own_far HO1)
  refine ⟨blk_put hT3 4 _ rfl, (hL1.kept HG2 (row_ne hL1 hA1 (by decide))).kept (grownBy_set _ _ _ _) (own_far HO1), HO2.kept (grownBy_set _ _ _ _) (own_far HO2), ?_, ?_⟩
  · exact ((((HB2.alloc (by omega) o).trans (HB1.mono (Nat.le_succ T))).setCell (p := ⟨T, 3, none⟩) (Nat.le_refl T) _).trans (HB3.mono (Nat.le_succ T))).setCell (p := ⟨T, 4, none⟩) (Nat.le_refl T) _
  · have h1 := HB1.size
    have h2 := HB3.size
    simp only [World.size_alloc, World.size_setCell] at h1 h2 ⊢
    omega

theorem grownBy_below {w w1 : World} (h : Below w.heap.size w w1) : w.grownBy w1 none := ⟨h.os, h.tape, h.output, h.size, fun k hk _ => h.block k hk⟩
theorem own_set {w : World} {T g i : Nat} {e : TypeId} {size n : Nat} {v u : Value} {xs : List Value} (h : w.ownsRow (T + 1) e size v n xs) (hg : g ≤ T) : (w.setCell ⟨g, i, none⟩ u).ownsRow (T + 1) e size v n xs :=
  h.kept (grownBy_set w g i u) (by
    rcases hv : v.ownBlock with _ | k
    · exact .inl rfl
    · refine .inr fun e => ?_
      injection e with e
      have := (h.lt k hv).1
      omega)
theorem own_put5 {w : World} {T g : Nat} {e : TypeId} {size n : Nat} {v b0 b1 b2 b3 b4 : Value} {xs : List Value} (h : w.ownsRow (T + 1) e size v n xs) (hg : g ≤ T) :
    (((((w.setCell ⟨g, 0, none⟩ b0).setCell ⟨g, 1, none⟩ b1).setCell ⟨g, 2, none⟩ b2).setCell ⟨g, 3, none⟩ b3).setCell ⟨g, 4, none⟩ b4).ownsRow (T + 1) e size v n xs :=
  own_set (own_set (own_set (own_set (own_set h hg) hg) hg) hg) hg
theorem rec_reads {w w1 : World} {T n c : Nat} {A B : Option Addr} {cb : Nat} {es : List FE} (h1 : w1.ownsRow (T + 1) 9 1 (.slice A n c) n ((es.map FE.l).map Value.string)) (h2 : w1.ownsRow (T + 1) 26 5 (.slice B n cb) n (es.flatMap FE.enc5))
    (hn : es.length = n) (hmax : n ≤ 9223372036854775807) (hrt : ∀ e ∈ es, RT w e.v.enc e.v.x) (hb : Below w.heap.size w w1) :
    RT w1 (.agg #[.int .i64 8, .int .i64 0, .string ⟨#[]⟩, .slice A n c, .slice B n cb]) ⟨8, 0, ⟨#[]⟩, es.map FE.l, es.map fun e => e.v.x⟩ := by
  obtain ⟨A', c', e1, l1, C1⟩ := cS_of_own h1
  obtain ⟨B', d', e2, l2, C2⟩ := c26_of_own h2 hn hmax (fun e he => (hrt e he).below hb)
  cases e1
  cases e2
  subst hn
  refine ⟨A, c, B, cb, ?_, ?_, ?_, ?_, ?_⟩ <;> simp only [List.length_map] <;> assumption

/-- The record of fields, in the order of their labels, where those rise. -/
def recOf (ps : List (ByteArray × S26)) : S26 × Bool := if risingN (bl (ps.map Prod.fst)) = true then (⟨8, 0, ⟨#[]⟩, ps.map Prod.fst, ps.map Prod.snd⟩, true) else (z26, false)
def leP (a b : ByteArray × S26) : Bool := decide (a.1.data.toList ≤ b.1.data.toList)
def recT (ls : List ByteArray) (ar : List S26) : S26 × Bool := if ls.length = ar.length then recOf ((ls.zip ar).mergeSort leP) else (z26, false)
end Go.Proofs.Ytkeeknlfommieaa.PF
