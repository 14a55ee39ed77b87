/- The reference's Rec: the walk. -/
import Derived.Test.YtkeeknlfommieaaM1
import Derived.Test.YtkeeknlfommieaaM2
import Derived.Deep.RegionHeld3
import Derived.Deep.RegionWith
import Derived.StillTailTactics
import Derived.Deep.DrawnRows
namespace Go.Proofs.Ytkeeknlfommieaa.PF
open Go.RowKit Go.Shelf Go.Proofs.YtkeeknlfommieaaW.PrintWords Go.Proofs.YtkeeknlfommieaaW.PrintLast Go.Proofs.YtkeeknlfommieaaW.PrintMore
attribute [local go_sem ↓] Go.wp_at_zero Go.wp_at_succ
theorem rfine_b {x : ByteArray} {b : Bool} (h : fineN x.data.toList = b) (w : World) : Calls Try.prog 76 #[.string x] w fun e w' => e = .returned (.bool b) ∧ Below w.heap.size w w' := by
  rw [← h]; exact rfine_calls x w
def prF (e : FE) : ByteArray × S26 := (e.l, e.v.x)
abbrev S7 (wr : World) (T : Nat) (vL : Value) (p : Addr) (s : ByteArray) (W : World) : Prop := W.cell? ⟨T, 3, none⟩ = some vL ∧ W.cell? p = some (.string s) ∧ Below wr.heap.size wr W
theorem S7.of {wr W : World} {T : Nat} {vL : Value} {p : Addr} {s : ByteArray} (h0 : wr.cell? ⟨T, 3, none⟩ = some vL) (h1 : wr.cell? p = some (.string s)) (hb : Below wr.heap.size wr W) : S7 wr T vL p s W :=
  ⟨(hb.cell (World.block_lt_of_cell? wr _ h0)).trans h0, (hb.cell (World.block_lt_of_cell? wr _ h1)).trans h1, hb⟩
theorem place_mem (s : ByteArray) (l : List ByteArray) : ∀ i : Nat, 0 ≤ placeS s l i ↔ s ∈ l := by
  induction l with
  | nil => intro i; simp [placeS]
  | cons x l ih =>
    intro i
    rw [placeS, List.mem_cons]
    by_cases e : x = s
    · rw [if_pos (eqB_iff.2 e)]; exact ⟨fun _ => .inl e.symm, fun _ => by omega⟩
    · rw [if_neg (fun h => e (eqB_iff.1 h)), ih]; exact ⟨.inr, fun h => h.resolve_left (fun h => e h.symm)⟩
theorem mem_keys (e : FE) (acc : List FE) : key (prF e) ∈ (acc.map prF).map key ↔ e.l ∈ acc.map FE.l := by
  rw [List.map_map, List.mem_map, List.mem_map]
  constructor
  · rintro ⟨x, hx, h⟩
    exact ⟨x, hx, bytes_ext (by rw [ByteArray.toList_eq, ByteArray.toList_eq]; exact h)⟩
  · rintro ⟨x, hx, h⟩
    exact ⟨x, hx, by show x.l.data.toList = e.l.data.toList; rw [h]⟩
theorem zip_es {ls : List ByteArray} {ar : List S26} {es : List FE} (h1 : es.map FE.l = ls) (h2 : es.map (fun e => e.v.x) = ar) : ls.zip ar = es.map prF := by
  subst h1 h2
  induction es with
  | nil => rfl
  | cons a l ih => simp [prF] at ih ⊢; exact ih
theorem rec_none {w : World} {A B : Option Addr} {ls : List ByteArray} {ar : List S26} {es : List FE} (h : Fields w A B ls ar es) (hl : ls.length = ar.length) (hg : refGo [] (es.map prF) = none) : refRecT ls ar = (z26, false) := by
  unfold refRecT
  rw [if_pos hl, zip_es h.l h.x, hg]
theorem rec_some {w : World} {A B : Option Addr} {ls : List ByteArray} {ar : List S26} {es acc : List FE} (h : Fields w A B ls ar es) (hl : ls.length = ar.length) (hg : refGo [] (es.map prF) = some (acc.map prF)) : refRecT ls ar = (⟨8, 0, ⟨#[]⟩, acc.map FE.l, acc.map fun e => e.v.x⟩, true) := by
  unfold refRecT
  rw [if_pos hl, zip_es h.l h.x, hg]
  simp only [List.map_map]
  rfl
abbrev S8 (wr : World) (T : Nat) (vA : Value) (p : Addr) (b0 b1 b2 b3 b4 : Value) (W : World) : Prop := W.cell? ⟨T, 4, none⟩ = some vA ∧ W.cell? p = some b0 ∧ W.cell? ⟨p.block, p.off + 1, none⟩ = some b1 ∧ W.cell? ⟨p.block, p.off + 2, none⟩ = some b2 ∧ W.cell? ⟨p.block, p.off + 3, none⟩ = some b3 ∧ W.cell? ⟨p.block, p.off + 4, none⟩ = some b4 ∧ Below wr.heap.size wr W
theorem S8.of {wr W : World} {T : Nat} {vA : Value} {p : Addr} {b0 b1 b2 b3 b4 : Value} (h : wr.cell? ⟨T, 4, none⟩ = some vA) (h0 : wr.cell? p = some b0) (h1 : wr.cell? ⟨p.block, p.off + 1, none⟩ = some b1) (h2 : wr.cell? ⟨p.block, p.off + 2, none⟩ = some b2) (h3 : wr.cell? ⟨p.block, p.off + 3, none⟩ = some b3) (h4 : wr.cell? ⟨p.block, p.off + 4, none⟩ = some b4) (hb : Below wr.heap.size wr W) : S8 wr T vA p b0 b1 b2 b3 b4 W :=
  ⟨(hb.cell (World.block_lt_of_cell? wr _ h)).trans h, (hb.cell (World.block_lt_of_cell? wr _ h0)).trans h0, (hb.cell (World.block_lt_of_cell? wr _ h1)).trans h1, (hb.cell (World.block_lt_of_cell? wr _ h2)).trans h2, (hb.cell (World.block_lt_of_cell? wr _ h3)).trans h3, (hb.cell (World.block_lt_of_cell? wr _ h4)).trans h4, hb⟩
theorem grown_cell {w w1 : World} {T : Nat} (h : w.grownBy w1 (some T)) {a : Addr} {u : Value} (hc : w.cell? a = some u) (hne : a.block ≠ T) : w1.cell? a = some u :=
  (World.cell?_of_block (h.block _ (World.block_lt_of_cell? w _ hc) (fun e => hne (Option.some.inj e)))).trans hc
theorem below_of_grown {w w1 : World} {T : Nat} (h : w.grownBy w1 (some T)) (hT : T ≤ w.heap.size) : Below T w w1 :=
  ⟨h.os, h.tape, h.output, h.size, fun k hk => h.block k (Nat.lt_of_lt_of_le hk hT) (fun e => Nat.ne_of_lt hk (Option.some.inj e))⟩
theorem one_enc5 (es : List FE) : ∀ u ∈ es.flatMap FE.enc5, u.oneCell' = true := by
  intro u hu
  obtain ⟨e, _, h⟩ := List.mem_flatMap.1 hu
  exact FE.h15 e u h
theorem flat_take (es : List FE) : ∀ q, (es.flatMap FE.enc5).take (q * 5) = (es.take q).flatMap FE.enc5 := by
  induction es with
  | nil => intro q; simp
  | cons e es ih =>
    intro q
    cases q with
    | zero => simp
    | succ q =>
      rw [List.flatMap_cons, List.take_succ_cons, List.flatMap_cons, ← ih q, show (q + 1) * 5 = e.enc5.length + q * 5 by show _ = 5 + q * 5; omega, List.take_append, List.take_of_length_le (by omega), Nat.add_sub_cancel_left]
theorem flat_drop (es : List FE) : ∀ q, (es.flatMap FE.enc5).drop (q * 5) = (es.drop q).flatMap FE.enc5 := by
  induction es with
  | nil => intro q; simp
  | cons e es ih =>
    intro q
    cases q with
    | zero => simp
    | succ q =>
      rw [List.flatMap_cons, List.drop_succ_cons, ← ih q, show (q + 1) * 5 = e.enc5.length + q * 5 by show _ = 5 + q * 5; omega, List.drop_length_add_append]
def insF (q : Nat) (e : FE) (acc : List FE) : List FE := acc.take q ++ e :: acc.drop q
theorem insF_l (q : Nat) (e : FE) (acc : List FE) : [] ++ (((acc.map FE.l).map Value.string).take (q * 1)) ++ [.string e.l] ++ (((acc.map FE.l).map Value.string).drop (q * 1)) = ((insF q e acc).map FE.l).map Value.string := by
  unfold insF
  simp [List.map_take, List.map_drop]
theorem insF_x (q : Nat) (e : FE) (acc : List FE) : [] ++ ((acc.flatMap FE.enc5).take (q * 5)) ++ e.enc5 ++ ((acc.flatMap FE.enc5).drop (q * 5)) = (insF q e acc).flatMap FE.enc5 := by
  unfold insF
  rw [flat_take, flat_drop, List.flatMap_append, List.flatMap_cons]
  simp
theorem insF_p (q : Nat) (e : FE) (acc : List FE) (hq : q = atP (prF e) (acc.map prF)) : insP (prF e) (acc.map prF) = (insF q e acc).map prF := by
  unfold insP insF
  rw [← hq, List.map_append, List.map_cons, List.map_take, List.map_drop]
theorem insF_len (q : Nat) (e : FE) (acc : List FE) : (insF q e acc).length = acc.length + 1 := by
  unfold insF
  simp
  omega
theorem insF_mem {q : Nat} {e : FE} {acc es : List FE} (h : ∀ x ∈ acc, x ∈ es) (he : e ∈ es) : ∀ x ∈ insF q e acc, x ∈ es := by
  intro x hx
  unfold insF at hx
  rcases List.mem_append.1 hx with h1 | h1
  · exact h x (List.mem_of_mem_take h1)
  · rcases List.mem_cons.1 h1 with rfl | h1
    · exact he
    · exact h x (List.mem_of_mem_drop h1)
set_option maxRecDepth 100000 in
set_option maxHeartbeats 4000000 in
theorem rrec_calls (A B : Option Addr) (c d : Nat) (ls : List ByteArray) (ar : List S26) (w : World) (g3 : Kd.string.C w A ls.length ls) (g4 : k26.C w B ar.length ar) (hn : ls.length ≤ 4294967296) :
    Calls Try.prog 41 #[.slice A ls.length c, .slice B ar.length d] w (ResTy (refRecT ls ar) w) := by
  by_cases hl : ls.length = ar.length
  · have hl' : ((ls.length : Int) != (ar.length : Int)) = false := by rw [bne_eq_false_iff_eq]; omega
    obtain ⟨es, hf⟩ := fields_of g3 g4 hl
    have HF := Aside0.mk hf
    have HLS := Aside0.mk hf.len.1
    have HAR := Aside0.mk hf.len.2
    have HN := Aside0.mk hn
    have hls := g3.2.1
    have HLN := Aside0.mk hl
    clear hf g3 g4 hl hn
    go_enter Try.func41, Try.ntmps41
    go_wp2_with fail
    go_loopg [7] ls.length (fun gk i wr => ∃ (k : Nat) (acc : List FE) (vL vA : Value), i = .int .i64 k ∧ Aside0 (gk + k = ls.length) ∧ Aside0 (acc.length = k ∧ (∀ e ∈ acc, e ∈ es) ∧ refGo [] (es.map prF) = refGo (acc.map prF) ((es.drop k).map prF)) ∧ Aside0 (wr.heap[w.heap.size + 1]? = some (.cells #[.int .i64 8, .int .i64 0, .string ⟨#[]⟩, vL, vA] 26 (0, 0))) ∧ Aside0 (k = 0 → vL = .slice none 0 0 ∧ vA = .slice none 0 0) ∧ Aside0 (wr.ownsRow (w.heap.size + 2) 9 1 vL k ((acc.map FE.l).map Value.string)) ∧ Aside0 (wr.ownsRow (w.heap.size + 2) 26 5 vA k (acc.flatMap FE.enc5)) ∧ Aside0 (Below (w.heap.size + 1) (w.alloc (.cells #[.int .i64 0, .int .i64 0, .string ⟨#[]⟩, .slice none 0 0, .slice none 0 0] 26)) wr) ∧ Aside0 (w.heap.size + 2 ≤ wr.heap.size))
    case atStart => exact ⟨0, [], _, _, rfl, ⟨rfl⟩, ⟨rfl, by simp, by simp⟩, ⟨by have := blk_new (w.alloc (.cells #[.int .i64 0, .int .i64 0, .string ⟨#[]⟩, .slice none 0 0, .slice none 0 0] 26)) (.cells #[.int .i64 8, .int .i64 0, .string ⟨#[]⟩, .slice none 0 0, .slice none 0 0] 26); simpa only [World.size_alloc] using this⟩, ⟨fun _ => ⟨rfl, rfl⟩⟩, ⟨World.ownsRow_nil _ _ _ _⟩, ⟨World.ownsRow_nil _ _ _ _⟩, ⟨by have := below_alloc (Below.refl (w.alloc (.cells #[.int .i64 0, .int .i64 0, .string ⟨#[]⟩, .slice none 0 0, .slice none 0 0] 26)).heap.size _) (.cells #[.int .i64 8, .int .i64 0, .string ⟨#[]⟩, .slice none 0 0, .slice none 0 0] 26); simpa only [World.size_alloc] using this⟩, ⟨by simp⟩⟩
    case round =>
      obtain ⟨k, acc, vL, vA, rfl, HK, HACC, HTB, HNIL, HVL, HVA, HB, HSZ⟩ := hrel
      obtain ⟨wo, hwo⟩ : ∃ x, x = wr := ⟨_, rfl⟩
      subst hwo
      have hz : w.heap.size + 1 < wo.heap.size := HSZ.out
      have hz' : w.heap.size < wo.heap.size := by omega
      have HBW := Aside0.mk (show Below w.heap.size w wo from (below_alloc (Below.refl _ _) _).trans (HB.out.mono (by omega)))
      have HRB := Aside0.mk (show wo.heap[w.heap.size]? = some (.cells #[.int .i64 0, .int .i64 0, .string ⟨#[]⟩, .slice none 0 0, .slice none 0 0] 26 (0, 0)) from (HB.out.block _ (Nat.lt_succ_self _)).trans (blk_new w _))
      obtain ⟨AL, cl, hvl, hlc, hCL⟩ := cS_of_own HVL.out
      have HVLE := Aside0.mk hvl
      have HCL := Aside0.mk hCL
      have HLC := Aside0.mk hlc
      have t3 := blk_cell HTB.out 3
      simp at t3
      rw [hvl] at t3
      have HT3 := Aside0.mk t3
      clear hvl hCL hlc
      by_cases hlt : k < ls.length
      · have hltZ : ((k : Int) < (ls.length : Int)) := by omega
        have hltZ2 : ((k : Int) < (ar.length : Int)) := by have := HLS.out; have := HAR.out; omega
        have hlt2 : k < es.length := by have := HLS.out; omega
        obtain ⟨ad, bd, eA, eB, h0, h1, h2, h3, h4, h5⟩ := HF.out.cl k hlt2
        cases eA
        cases eB
        have HDR := Aside0.mk (show (es.drop k).map prF = prF es[k] :: (es.drop (k + 1)).map prF from by rw [drop_head es k hlt2]; rfl)
        have HMEM := Aside0.mk (show es[k] ∈ es from List.getElem_mem hlt2)
        generalize es[k] = e at *
        have HBLK := Aside0.mk (World.block_lt_of_cell? w _ h1)
        have q0 := pw_cell_below HBW.out h0
        have q1 := pw_cell_below HBW.out h1
        have q2 := pw_cell_below HBW.out h2
        have q3 := pw_cell_below HBW.out h3
        have q4 := pw_cell_below HBW.out h4
        have q5 := pw_cell_below HBW.out h5
        have HQ := Aside0.mk (And.intro q0 (And.intro q1 (And.intro q2 (And.intro q3 (And.intro q4 q5)))))
        have HLT := Aside0.mk hlt
        clear h0 h1 h2 h3 h4 h5 hlt hlt2 q1 q2 q3 q4 q5
        have c0 := BelowOf.cell q0
        have c3 := BelowOf.cell HT3.out
        clear q0 t3
        obtain ⟨b, hb⟩ : ∃ b, fineN e.l.data.toList = b := ⟨_, rfl⟩
        have HFN := Aside0.mk hb
        clear hb
        obtain ⟨m, hm⟩ : ∃ m, placeS e.l (acc.map FE.l) 0 = m := ⟨_, rfl⟩
        have HPM := Aside0.mk hm
        have HPC := Aside0.mk (fun (W : World) (hb : Below wo.heap.size wo W) => place_calls AL cl (acc.map FE.l) e.l W (by have h_ := HCL.out; rw [show (acc.map FE.l).length = k by simp [HACC.out.1]]; exact Kd.C_below h_ hb) (by have := HLC.out; simp [HACC.out.1]; omega))
        rw [show (acc.map FE.l).length = k by simp [HACC.out.1], hm] at HPC
        clear hm
        go_wp2_with (fail)
        cases b with
        | false =>
          have HX := Aside0.mk (show refGo [] (es.map prF) = none from by rw [HACC.out.2.2, HDR.out, refGo, if_neg (fun h => by have h1 := h.1; rw [show key (prF e) = e.l.data.toList from rfl, HFN.out] at h1; cases h1)])
          have HRES := Aside0.mk (rec_none HF.out HLN.out HX.out)
          refine wp_region_below wo (Below.refl _ _) (by kernel_rfl) (by kernel_rfl) ?_
          repeat (first | go_big_quiet_step ((first | (go_at_call 76; exact BelowOf.calls (rfine_b HFN.out _)) | (go_at_call 57; exact BelowOf.calls (HPC.out _ (BelowOf.h _))))) | quiet_step ((first | (go_at_call 76; exact BelowOf.calls (rfine_b HFN.out _)) | (go_at_call 57; exact BelowOf.calls (HPC.out _ (BelowOf.h _))))))
          refine wpQuiet_nil ?_
          intro _ hw'
          obtain ⟨px, hw''⟩ := hw'
          subst hw''
          have r0 := blk_cell HRB.out 0
          have r1 := blk_cell HRB.out 1
          have r2 := blk_cell HRB.out 2
          have r3 := blk_cell HRB.out 3
          have r4 := blk_cell HRB.out 4
          have rz := fun i => blk_frozen HRB.out i
          simp at r0 r1 r2 r3 r4
          obtain ⟨hcell, hfroz⟩ := bcell px.h
          have hzw := px.h.size
          go_wp2
          refine bodyPost_ret (results_ct rfl _ _ w.heap.size 26 _ (0, 0) _ rfl (put5 (blk_below HRB.out px.h)) Try.underlying26 rfl (by kernel_rfl)) rfl ?_
          rw [HRES.out]
          exact ⟨⟨_, rfl, RT_z _⟩, below5 (HBW.out.trans (px.h.mono (by omega))) (Nat.le_refl _)⟩
        | true =>
          by_cases hp : 0 ≤ m
          · have HX := Aside0.mk (show refGo [] (es.map prF) = none from by rw [HACC.out.2.2, HDR.out, refGo, if_neg (fun h => h.2 ((mem_keys _ _).2 ((place_mem _ _ 0).1 (by rw [HPM.out]; exact hp))))])
            have HRES := Aside0.mk (rec_none HF.out HLN.out HX.out)
            refine wp_region_below wo (Below.refl _ _) (by kernel_rfl) (by kernel_rfl) ?_
            repeat (first | go_big_quiet_step ((first | (go_at_call 76; exact BelowOf.calls (rfine_b HFN.out _)) | (go_at_call 57; exact BelowOf.calls (HPC.out _ (BelowOf.h _))))) | quiet_step ((first | (go_at_call 76; exact BelowOf.calls (rfine_b HFN.out _)) | (go_at_call 57; exact BelowOf.calls (HPC.out _ (BelowOf.h _))))))
            refine wpQuiet_nil ?_
            intro _ hw'
            obtain ⟨px, hw''⟩ := hw'
            subst hw''
            have r0 := blk_cell HRB.out 0
            have r1 := blk_cell HRB.out 1
            have r2 := blk_cell HRB.out 2
            have r3 := blk_cell HRB.out 3
            have r4 := blk_cell HRB.out 4
            have rz := fun i => blk_frozen HRB.out i
            simp at r0 r1 r2 r3 r4
            obtain ⟨hcell, hfroz⟩ := bcell px.h
            have hzw := px.h.size
            go_wp2
            refine bodyPost_ret (results_ct rfl _ _ w.heap.size 26 _ (0, 0) _ rfl (put5 (blk_below HRB.out px.h)) Try.underlying26 rfl (by kernel_rfl)) rfl ?_
            rw [HRES.out]
            exact ⟨⟨_, rfl, RT_z _⟩, below5 (HBW.out.trans (px.h.mono (by omega))) (Nat.le_refl _)⟩
          · have HX := Aside0.mk (show refGo [] (es.map prF) = refGo (insP (prF e) (acc.map prF)) ((es.drop (k + 1)).map prF) from by rw [HACC.out.2.2, HDR.out, refGo, if_pos ⟨HFN.out, fun h => hp (by have := (place_mem _ _ 0).2 ((mem_keys _ _).1 h); rwa [HPM.out] at this)⟩])
            refine wp_region_below wo (Below.refl _ _) (by kernel_rfl) (by kernel_rfl) ?_
            repeat (first | go_big_quiet_step ((first | (go_at_call 76; exact BelowOf.calls (rfine_b HFN.out _)) | (go_at_call 57; exact BelowOf.calls (HPC.out _ (BelowOf.h _))))) | quiet_step ((first | (go_at_call 76; exact BelowOf.calls (rfine_b HFN.out _)) | (go_at_call 57; exact BelowOf.calls (HPC.out _ (BelowOf.h _))))))
            refine wpQuiet_nil ?_
            intro _ hw'
            obtain ⟨px, hw''⟩ := hw'
            subst hw''
            have hzw := px.h.size
            go_upto_block 2 with (fail)
            go_cut [8] (fun v8 wc => ∃ q : Nat, v8 = .int .i64 q ∧ Aside0 (q = atP (prF e) (acc.map prF)) ∧ Aside0 (Below wo.heap.size wo wc))
            case first =>
              go_wp2_with (fail)
              go_loopg [8] k (fun gk i wx => ∃ q : Nat, i = .int .i64 q ∧ Aside0 (gk + q = k) ∧ Aside0 (∀ (j : Nat) (hj : j < acc.length), j < q → key (prF acc[j]) < key (prF e)) ∧ Aside0 (Below wo.heap.size wo wx))
              case atStart => exact ⟨0, rfl, ⟨by omega⟩, ⟨fun j hj h => by omega⟩, ⟨px.h⟩⟩
              case round =>
                clear HK
                obtain ⟨q, rfl, HQK, HQL, HBX⟩ := hrel
                by_cases hq : q < k
                · have hqZ : (q : Int) < (k : Int) := by omega
                  have hqa : q < acc.length := by rw [HACC.out.1]; exact hq
                  obtain ⟨al, eAL, hcl⟩ := elS (l := acc.map FE.l) (A := AL) (by rw [show (acc.map FE.l).length = k by simp [HACC.out.1]]; exact HCL.out) q (by rw [List.length_map]; exact hqa)
                  subst eAL
                  rw [List.getElem_map] at hcl
                  have HTK := Aside0.mk (show ∀ b, Op.bytesLess (acc[q].l).toList (e.l).toList = b → (b = true ↔ key (prF acc[q]) < key (prF e)) from fun b hb => by
                    rw [← hb, bytesLess_eq, decide_eq_true_iff, ByteArray.toList_eq, ByteArray.toList_eq]; rfl)
                  have HQA := Aside0.mk hqa
                  have HQQ := Aside0.mk hq
                  have cq := BelowOf.cell hcl
                  clear hcl hq
                  generalize acc[q].l = s at *
                  obtain ⟨b, hb⟩ : ∃ b, Op.bytesLess s.toList e.l.toList = b := ⟨_, rfl⟩
                  have HBB := Aside0.mk hb
                  cases b with
                  | true =>
                    go_wp2_with (fail)
                    refine wp_region_below wo HBX.out (by kernel_rfl) (by kernel_rfl) ?_
                    repeat (first | go_big_quiet_step (fail) | quiet_step (fail))
                    refine wpQuiet_nil ?_
                    intro _ hw'
                    obtain ⟨py, hw''⟩ := hw'
                    subst hw''
                    go_wp2
                    go_roundg (gk - 1)
                    case measure => have := HQK.out; have := HQQ.out; omega
                    case rel => exact ⟨q + 1, by go_num, ⟨by have := HQK.out; have := HQQ.out; omega⟩, ⟨fun j hj h => by
                      by_cases e1 : j = q
                      · subst e1; exact (HTK.out _ HBB.out).1 rfl
                      · exact HQL.out j hj (by omega)⟩, ⟨py.h⟩⟩
                  | false =>
                    go_wp2_with (fail)
                    refine wp_region_below wo HBX.out (by kernel_rfl) (by kernel_rfl) ?_
                    repeat (first | go_big_quiet_step (fail) | quiet_step (fail))
                    refine wpQuiet_nil ?_
                    intro _ hw'
                    obtain ⟨py, hw''⟩ := hw'
                    subst hw''
                    go_wp2
                    go_meet
                    case rel => exact ⟨q, rfl, ⟨atP_stop _ _ q (by rw [List.length_map]; exact Nat.le_of_lt HQA.out) (fun j hj h => by rw [List.getElem_map]; exact HQL.out j _ h) (fun h => by rw [List.getElem_map]; intro h2; have := (HTK.out _ HBB.out).2 h2; cases this)⟩, ⟨py.h⟩⟩
                · have hqZ : ¬ (q : Int) < (k : Int) := by omega
                  have HQQ := Aside0.mk (show q = k from by have := HQK.out; omega)
                  have hqd : decide ((q : Int) < (k : Int)) = false := by simpa using hqZ
                  go_wp2_with (fail)
                  refine wp_region_below wo HBX.out (by kernel_rfl) (by kernel_rfl) ?_
                  repeat (first | go_big_quiet_step (fail) | quiet_step (fail))
                  refine wpQuiet_nil ?_
                  intro _ hw'
                  obtain ⟨py, hw''⟩ := hw'
                  subst hw''
                  go_wp2
                  go_meet
                  case rel => exact ⟨q, rfl, ⟨atP_stop _ _ q (by rw [List.length_map, HACC.out.1, HQQ.out]; exact Nat.le_refl _) (fun j hj h => by rw [List.getElem_map]; exact HQL.out j _ h) (fun h => absurd h (by rw [List.length_map, HACC.out.1, HQQ.out]; exact Nat.lt_irrefl _))⟩, ⟨py.h⟩⟩
            case rest =>
              have hrel2 : ∃ q : Nat, u8 = .int .i64 q ∧ Aside0 (q = atP (prF e) (acc.map prF)) ∧ Aside0 (Below wo.heap.size wo wc) := by assumption
              obtain ⟨q, rfl, HAT, HBX⟩ := hrel2
              by_cases hk0 : k = 0
              · have HNIL0 := Aside0.mk (HNIL.out hk0)
                have HT3n := Aside0.mk (show wo.cell? ⟨w.heap.size + 1, 3, none⟩ = some (.slice none 0 0) from by have h_ := blk_cell HTB.out 3; simp at h_; rw [h_, HNIL0.out.1])
                have HQK2 := Aside0.mk hk0
                have ha0 : acc = [] := List.eq_nil_of_length_eq_zero (by rw [HACC.out.1]; exact hk0)
                have hq0 : q = 0 := by rw [HAT.out, ha0]; rfl
                subst hq0
                have HACC0 := Aside0.mk ha0
                clear ha0 hk0
                have t3 := HT3n.out
                have tz := fun i => blk_frozen HTB.out i
                go_upto_region 13 with (fail)
                go_cut [8] (fun v8 w2 => ∃ (g2 cap2 : Nat), v8 = .int .i64 0 ∧ Aside0 (w2.heap[w.heap.size + 1]? = some (.cells #[.int .i64 8, .int .i64 0, .string ⟨#[]⟩, .slice (some ⟨g2, 0, none⟩) (k + 1) cap2, vA] 26 (0, 0))) ∧ Aside0 (w2.ownsRow (w.heap.size + 2) 9 1 (.slice (some ⟨g2, 0, none⟩) (k + 1) cap2) (k + 1) ([] ++ [] ++ [.string e.l] ++ [])) ∧ Aside0 (wo.grownBy w2 (some (w.heap.size + 1))))
                case first =>
                  go_wp2_with (fail)
                  refine start_ (n := 19) (S := (S7 wo (w.heap.size + 1) (.slice none 0 0) (ad.add k) e.l)) (ds := [18]) #[false, false, false, false, false, false, false, false, false, false, false, false, false, false, false, false, false, false, false] (by kernel_rfl) rfl rfl (S7.of HT3n.out HQ.out.1 (below_drew HBX.out)) (fun hHeld => ?_)
                  obtain ⟨wd, hwd⟩ : ∃ x, x = wc.drew := ⟨_, rfl⟩
                  rw [← hwd] at hHeld ⊢
                  clear hwd
                  have HWD := Aside0.mk hHeld.2.2
                  refine pure_ (i := 1) (N := some 59) (v := ?_) (a' := ?_) #[false, true, false, false, false, false, false, false, false, false, false, false, false, false, false, false, false, false, false] rfl rfl (by kernel_rfl) (fun _ _ _ h => h) (Or.inl ⟨by rfl, ?_⟩) ?_ ?_
                  rotate_left
                  · intro w'
                    go_simp
                    with_reducible rfl
                  rotate_left
                  · simp only [putAll, Act.put, List.setIfInBounds_toArray, List.set_cons_zero, List.set_cons_succ]
                    rfl
                  refine take_ (i := 2) (N := some 60) (v := ?_) (a' := ?_) #[false, true, true, false, false, false, false, false, false, false, false, false, false, false, false, false, false, false, false] rfl rfl (by kernel_rfl) (fun _ _ _ h => h) (Or.inl ⟨by rfl, ?_⟩) hHeld ?_ ?_
                  rotate_left
                  · rintro w' ⟨s0, s1, _⟩
                    go_simp
                    with_reducible rfl
                  rotate_left
                  · simp only [putAll, Act.put, List.setIfInBounds_toArray, List.set_cons_zero, List.set_cons_succ]
                    rfl
                  refine pure_ (i := 3) (N := some 61) (v := ?_) (a' := ?_) #[false, true, true, true, false, false, false, false, false, false, false, false, false, false, false, false, false, false, false] rfl rfl (by kernel_rfl) (fun _ _ _ h => h) (Or.inl ⟨by rfl, ?_⟩) ?_ ?_
                  rotate_left
                  · intro w'
                    go_simp
                    with_reducible rfl
                  rotate_left
                  · simp only [putAll, Act.put, List.setIfInBounds_toArray, List.set_cons_zero, List.set_cons_succ]
                    rfl
                  refine pure_ (i := 4) (N := some 62) (v := ?_) (a' := ?_) #[false, true, true, true, true, false, false, false, false, false, false, false, false, false, false, false, false, false, false] rfl rfl (by kernel_rfl) (fun _ _ _ h => h) (Or.inl ⟨by rfl, ?_⟩) ?_ ?_
                  rotate_left
                  · intro w'
                    go_simp
                    with_reducible rfl
                  rotate_left
                  · simp only [putAll, Act.put, List.setIfInBounds_toArray, List.set_cons_zero, List.set_cons_succ]
                    rfl
                  refine pure_ (i := 6) (N := some 64) (v := ?_) (a' := ?_) #[false, true, true, true, true, false, true, false, false, false, false, false, false, false, false, false, false, false, false] rfl rfl (by kernel_rfl) (fun _ _ _ h => h) (Or.inl ⟨by rfl, ?_⟩) ?_ ?_
                  rotate_left
                  · intro w'
                    go_simp
                    with_reducible rfl
                  rotate_left
                  · simp only [putAll, Act.put, List.setIfInBounds_toArray, List.set_cons_zero, List.set_cons_succ]
                    rfl
                  refine pure_ (i := 7) (N := some 65) (v := ?_) (a' := ?_) #[false, true, true, true, true, false, true, true, false, false, false, false, false, false, false, false, false, false, false] rfl rfl (by kernel_rfl) (fun _ _ _ h => h) (Or.inl ⟨by rfl, ?_⟩) ?_ ?_
                  rotate_left
                  · intro w'
                    go_simp
                    with_reducible rfl
                  rotate_left
                  · simp only [putAll, Act.put, List.setIfInBounds_toArray, List.set_cons_zero, List.set_cons_succ]
                    rfl
                  refine pure_ (i := 8) (N := some 66) (v := ?_) (a' := ?_) #[false, true, true, true, true, false, true, true, true, false, false, false, false, false, false, false, false, false, false] rfl rfl (by kernel_rfl) (fun _ _ _ h => h) (Or.inl ⟨by rfl, ?_⟩) ?_ ?_
                  rotate_left
                  · intro w'
                    go_simp
                    with_reducible rfl
                  rotate_left
                  · simp only [putAll, Act.put, List.setIfInBounds_toArray, List.set_cons_zero, List.set_cons_succ]
                    rfl
                  refine take_ (i := 9) (N := some 67) (v := ?_) (a' := ?_) #[false, true, true, true, true, false, true, true, true, true, false, false, false, false, false, false, false, false, false] rfl rfl (by kernel_rfl) (fun _ _ _ h => h) (Or.inl ⟨by rfl, ?_⟩) hHeld ?_ ?_
                  rotate_left
                  · rintro w' ⟨s0, s1, _⟩
                    go_simp
                    with_reducible rfl
                  rotate_left
                  · simp only [putAll, Act.put, List.setIfInBounds_toArray, List.set_cons_zero, List.set_cons_succ]
                    rfl
                  refine pure_ (i := 12) (N := some 70) (v := ?_) (a' := ?_) #[false, true, true, true, true, false, true, true, true, true, false, false, true, false, false, false, false, false, false] rfl rfl (by kernel_rfl) (fun _ _ _ h => h) (Or.inl ⟨by rfl, ?_⟩) ?_ ?_
                  rotate_left
                  · intro w'
                    go_simp
                    with_reducible rfl
                  rotate_left
                  · simp only [putAll, Act.put, List.setIfInBounds_toArray, List.set_cons_zero, List.set_cons_succ]
                    rfl
                  refine take_ (i := 13) (N := some 71) (v := ?_) (a' := ?_) #[false, true, true, true, true, false, true, true, true, true, false, false, true, true, false, false, false, false, false] rfl rfl (by kernel_rfl) (fun _ _ _ h => h) (Or.inl ⟨by rfl, ?_⟩) hHeld ?_ ?_
                  rotate_left
                  · rintro w' ⟨s0, s1, _⟩
                    go_simp
                    with_reducible rfl
                  rotate_left
                  · simp only [putAll, Act.put, List.setIfInBounds_toArray, List.set_cons_zero, List.set_cons_succ]
                    rfl
                  refine pure_ (i := 14) (N := some 72) (v := ?_) (a' := ?_) #[false, true, true, true, true, false, true, true, true, true, false, false, true, true, true, false, false, false, false] rfl rfl (by kernel_rfl) (fun _ _ _ h => h) (Or.inl ⟨by rfl, ?_⟩) ?_ ?_
                  rotate_left
                  · intro w'
                    go_simp
                    with_reducible rfl
                  rotate_left
                  · simp only [putAll, Act.put, List.setIfInBounds_toArray, List.set_cons_zero, List.set_cons_succ]
                    rfl
                  refine pure_ (i := 15) (N := some 73) (v := ?_) (a' := ?_) #[false, true, true, true, true, false, true, true, true, true, false, false, true, true, true, true, false, false, false] rfl rfl (by kernel_rfl) (fun _ _ _ h => h) (Or.inl ⟨by rfl, ?_⟩) ?_ ?_
                  rotate_left
                  · intro w'
                    go_simp
                    with_reducible rfl
                  rotate_left
                  · simp only [putAll, Act.put, List.setIfInBounds_toArray, List.set_cons_zero, List.set_cons_succ]
                    rfl
                  refine join_ (σ := Nat × Nat × Value) 4 #[true, true, true, true, true, true, true, true, true, true, true, false, true, true, true, true, false, false, false] (fun s_ => [(58, .slice (some ⟨s_.1, 0, none⟩) 0 0), (68, .slice (some ⟨s_.2.1, 0, none⟩) 1 1), (63, s_.2.2)]) (fun (s_ : Nat × Nat × Value) w' => S7 wo (w.heap.size + 1) (.slice none 0 0) (ad.add k) e.l w' ∧ w'.heap[s_.2.1]? = some (.cells ([.string e.l]).toArray 9 (0, 0)) ∧ w'.ownsRow wo.heap.size 9 1 s_.2.2 (0 + 0) ([] ++ [])) ?_ ?_
                  rotate_left
                  · intro hCont
                    refine two_ (i := 0) (j := 10) (Ni := some 58) (Nj := some 68) #[true, true, true, true, true, false, true, true, true, true, false, false, true, true, true, true, false, false, false] #[false, true, true, true, true, false, true, true, true, true, true, false, true, true, true, true, false, false, false] rfl rfl rfl rfl (by kernel_rfl) (by decide) (by decide) (fun K hK => ?_) (fun K hK => ?_)
                    · skip
                      go_simp
                      refine hK.out _ _ (S7.of HT3n.out HQ.out.1 (below_alloc hHeld.2.2 _)) (fun hHeld => ?_)
                      clear hK K
                      refine two_ (i := 5) (j := 10) (Ni := some 63) (Nj := some 68) #[true, true, true, true, true, true, true, true, true, true, false, false, true, true, true, true, false, false, false] #[true, true, true, true, true, false, true, true, true, true, true, false, true, true, true, true, false, false, false] rfl rfl rfl rfl (by kernel_rfl) (by decide) (by decide) (fun K hK => ?_) (fun K hK => ?_)
                      · skip
                        refine step_app (w0 := wo) wo.heap.size (by rfl) (.tmp 58) (.tmp 62) 23 9 (.string ⟨#[]⟩) 1 16 (by rfl) Try.underlying23 info9 (by rfl) (by decide) (by decide) (.slice (some ⟨wd.heap.size, 0, none⟩) 0 0) (.slice none 0 0) 0 0 [] [] (by rfl) (by rfl) ?HO ?HN ?HB (by rfl) ?hl ?_
                        case HO => exact (own_empty (blk_newR _ _ rfl) (by have h_ := HWD.out.size; omega))
                        case HN => exact news_nil
                        case HB => exact hHeld.2.2
                        case hl => have := HLS.out; have := HN.out; have := HLT.out; have := HQK2.out; omega
                        intro va wa aa
                        have Aa := Aside0.mk aa
                        clear aa
                        refine hK.out _ _ (S7.of HT3n.out HQ.out.1 Aa.out.low) (fun hHeld => ?_)
                        clear hK K
                        refine norm_ (a' := ?_) ?_ ?_
                        rotate_left
                        · show Act.put _ (some 63) _ = _
                          simp only [putAll, Act.put, List.setIfInBounds_toArray, List.set_cons_zero, List.set_cons_succ]
                          rfl
                        refine one_ (i := 10) (N := some 68) #[true, true, true, true, true, true, true, true, true, true, true, false, true, true, true, true, false, false, false] rfl rfl (by kernel_rfl) (by decide) (fun K hK => ?_)
                        go_simp
                        refine hK.out _ _ (S7.of HT3n.out HQ.out.1 (below_alloc Aa.out.low _)) (fun hHeld => ?_)
                        clear hK K
                        exact norm_ (by simp only [putAll, Act.put, List.setIfInBounds_toArray, List.set_cons_zero, List.set_cons_succ]) (hCont (wd.heap.size, wa.heap.size, va) _ ⟨hHeld, blk_newR _ _ rfl, Aa.out.own.alloc _⟩)
                      · skip
                        go_simp
                        refine hK.out _ _ (S7.of HT3n.out HQ.out.1 (below_alloc hHeld.2.2 _)) (fun hHeld => ?_)
                        clear hK K
                        refine one_ (i := 5) (N := some 63) #[true, true, true, true, true, true, true, true, true, true, true, false, true, true, true, true, false, false, false] rfl rfl (by kernel_rfl) (by decide) (fun K hK => ?_)
                        refine step_app (w0 := wo) wo.heap.size (by rfl) (.tmp 58) (.tmp 62) 23 9 (.string ⟨#[]⟩) 1 16 (by rfl) Try.underlying23 info9 (by rfl) (by decide) (by decide) (.slice (some ⟨wd.heap.size, 0, none⟩) 0 0) (.slice none 0 0) 0 0 [] [] (by rfl) (by rfl) ?HO ?HN ?HB (by rfl) ?hl ?_
                        case HO => exact (own_empty (blk_alloc (blk_newR _ _ rfl) _) (by have h_ := HWD.out.size; omega))
                        case HN => exact news_nil
                        case HB => exact hHeld.2.2
                        case hl => have := HLS.out; have := HN.out; have := HLT.out; have := HQK2.out; omega
                        intro vb wb ab
                        have Ab := Aside0.mk ab
                        clear ab
                        refine hK.out _ _ (S7.of HT3n.out HQ.out.1 Ab.out.low) (fun hHeld => ?_)
                        clear hK K
                        refine norm_ (a' := ?_) ?_ ?_
                        rotate_left
                        · show Act.put _ (some 63) _ = _
                          simp only [putAll, Act.put, List.setIfInBounds_toArray, List.set_cons_zero, List.set_cons_succ]
                          rfl
                        exact norm_ (by simp only [putAll, Act.put, List.setIfInBounds_toArray, List.set_cons_zero, List.set_cons_succ]) (hCont (wd.heap.size, wd.heap.size + 1, vb) _ ⟨hHeld, (Ab.out.grow.block _ (by simp) (by simp [Value.ownBlock])).trans (blk_newR _ _ (by simp)), Ab.out.own⟩)
                    · skip
                      go_simp
                      refine hK.out _ _ (S7.of HT3n.out HQ.out.1 (below_alloc hHeld.2.2 _)) (fun hHeld => ?_)
                      clear hK K
                      refine one_ (i := 0) (N := some 58) #[true, true, true, true, true, false, true, true, true, true, true, false, true, true, true, true, false, false, false] rfl rfl (by kernel_rfl) (by decide) (fun K hK => ?_)
                      go_simp
                      refine hK.out _ _ (S7.of HT3n.out HQ.out.1 (below_alloc hHeld.2.2 _)) (fun hHeld => ?_)
                      clear hK K
                      refine one_ (i := 5) (N := some 63) #[true, true, true, true, true, true, true, true, true, true, true, false, true, true, true, true, false, false, false] rfl rfl (by kernel_rfl) (by decide) (fun K hK => ?_)
                      refine step_app (w0 := wo) wo.heap.size (by rfl) (.tmp 58) (.tmp 62) 23 9 (.string ⟨#[]⟩) 1 16 (by rfl) Try.underlying23 info9 (by rfl) (by decide) (by decide) (.slice (some ⟨wd.heap.size + 1, 0, none⟩) 0 0) (.slice none 0 0) 0 0 [] [] (by rfl) (by rfl) ?HO ?HN ?HB (by rfl) ?hl ?_
                      case HO => exact (own_empty (blk_newR _ _ (by simp)) (by have h_ := HWD.out.size; omega))
                      case HN => exact news_nil
                      case HB => exact hHeld.2.2
                      case hl => have := HLS.out; have := HN.out; have := HLT.out; have := HQK2.out; omega
                      intro vc wc ac
                      have Ac := Aside0.mk ac
                      clear ac
                      refine hK.out _ _ (S7.of HT3n.out HQ.out.1 Ac.out.low) (fun hHeld => ?_)
                      clear hK K
                      refine norm_ (a' := ?_) ?_ ?_
                      rotate_left
                      · show Act.put _ (some 63) _ = _
                        simp only [putAll, Act.put, List.setIfInBounds_toArray, List.set_cons_zero, List.set_cons_succ]
                        rfl
                      exact norm_ (by simp only [putAll, Act.put, List.setIfInBounds_toArray, List.set_cons_zero, List.set_cons_succ]) (hCont (wd.heap.size + 1, wd.heap.size, vc) _ ⟨hHeld, (Ac.out.grow.block _ (by simp; omega) (by simp [Value.ownBlock])).trans (blk_alloc (blk_newR _ _ rfl) _), Ac.out.own⟩)
                  rintro ⟨g58, g68, v63⟩ wj hj
                  obtain ⟨hHeld, hj1, hj2⟩ := hj
                  have HJ1 := Aside0.mk hj1
                  have HJ2 := Aside0.mk hj2
                  clear hj1 hj2
                  dsimp only at HJ1 HJ2
                  refine norm_ (a' := ?_) ?_ ?_
                  rotate_left
                  · simp only [putAll, Act.put, List.setIfInBounds_toArray, List.set_cons_zero, List.set_cons_succ]
                    rfl
                  refine one_ (i := 11) (N := some 69) #[true, true, true, true, true, true, true, true, true, true, true, true, true, true, true, true, false, false, false] rfl rfl (by kernel_rfl) (by decide) (fun K hK => ?_)
                  refine step_app (w0 := wo) wo.heap.size (by rfl) (.tmp 63) (.tmp 68) 23 9 (.string ⟨#[]⟩) 1 16 (by rfl) Try.underlying23 info9 (by rfl) (by decide) (by decide) v63 (.slice (some ⟨g68, 0, none⟩) 1 1) (0 + 0) 1 ([] ++ []) [.string e.l] (by rfl) (by rfl) ?HO ?HN ?HB (by rfl) ?hl ?_
                  case HO => exact HJ2.out
                  case HN => exact (news_blk HJ1.out rfl (one_str _))
                  case HB => exact hHeld.2.2
                  case hl => have := HLS.out; have := HN.out; have := HLT.out; have := HQK2.out; omega
                  intro vd wd ad
                  have Ad := Aside0.mk ad
                  clear ad
                  refine hK.out _ _ (S7.of HT3n.out HQ.out.1 Ad.out.low) (fun hHeld => ?_)
                  clear hK K
                  refine norm_ (a' := ?_) ?_ ?_
                  rotate_left
                  · show Act.put _ (some 69) _ = _
                    simp only [putAll, Act.put, List.setIfInBounds_toArray, List.set_cons_zero, List.set_cons_succ]
                    rfl
                  refine one_ (i := 16) (N := some 74) #[true, true, true, true, true, true, true, true, true, true, true, true, true, true, true, true, true, false, false] rfl rfl (by kernel_rfl) (by decide) (fun K hK => ?_)
                  refine step_app (w0 := wo) wo.heap.size (by rfl) (.tmp 69) (.tmp 73) 23 9 (.string ⟨#[]⟩) 1 16 (by rfl) Try.underlying23 info9 (by rfl) (by decide) (by decide) vd (.slice none 0 0) (0 + 0 + 1) 0 ([] ++ [] ++ [.string e.l]) [] (by rfl) (by rfl) ?HO ?HN ?HB (by rfl) ?hl ?_
                  case HO => exact Ad.out.own
                  case HN => exact news_nil
                  case HB => exact hHeld.2.2
                  case hl => have := HLS.out; have := HN.out; have := HLT.out; have := HQK2.out; omega
                  intro ve we ae
                  have Ae := Aside0.mk ae
                  clear ae
                  have he_ := Ae.out.own
                  rw [show 0 + 0 + 1 + 0 = k + 1 by have := HQK2.out; omega] at he_
                  obtain ⟨g2, cap2, rfl⟩ := ownsRow_succ he_
                  have HE := Aside0.mk he_
                  clear he_
                  refine hK.out _ _ (S7.of HT3n.out HQ.out.1 Ae.out.low) (fun hHeld => ?_)
                  clear hK K
                  refine norm_ (a' := ?_) ?_ ?_
                  rotate_left
                  · show Act.put _ (some 74) _ = _
                    simp only [putAll, Act.put, List.setIfInBounds_toArray, List.set_cons_zero, List.set_cons_succ]
                    rfl
                  refine pure_ (i := 17) (N := some 75) (v := ?_) (a' := ?_) #[true, true, true, true, true, true, true, true, true, true, true, true, true, true, true, true, true, true, false] rfl rfl (by kernel_rfl) (fun _ _ _ h => h) (Or.inl ⟨by rfl, ?_⟩) ?_ ?_
                  rotate_left
                  · intro w'
                    go_simp
                    with_reducible rfl
                  rotate_left
                  · simp only [putAll, Act.put, List.setIfInBounds_toArray, List.set_cons_zero, List.set_cons_succ]
                    rfl
                  refine last_ (i := 18) (N := none) #[true, true, true, true, true, true, true, true, true, true, true, true, true, true, true, true, true, true, true] rfl rfl (by kernel_rfl) (by decide) (fun K hK => ?_)
                  obtain ⟨hcell, hfroz⟩ := bcell Ae.out.low
                  go_simp
                  refine hK.out _ _ ?_
                  clear hK K
                  refine done_ (by kernel_rfl) ?_
                  go_wp2_with fail
                  all_goals
                    go_meet
                    case rel => exact ⟨g2, cap2, rfl, ⟨blk_put ((Ae.out.low.block _ hz).trans HTB.out) 3 _ rfl⟩, ⟨own_store HE.out hz (by have := HSZ.out; omega)⟩, ⟨grownBy_store Ae.out.low _ _ _⟩⟩
                case rest =>
                  have hrel3 : ∃ (g2 cap2 : Nat), u8 = .int .i64 0 ∧ Aside0 (wc.heap[w.heap.size + 1]? = some (.cells #[.int .i64 8, .int .i64 0, .string ⟨#[]⟩, .slice (some ⟨g2, 0, none⟩) (k + 1) cap2, vA] 26 (0, 0))) ∧ Aside0 (wc.ownsRow (w.heap.size + 2) 9 1 (.slice (some ⟨g2, 0, none⟩) (k + 1) cap2) (k + 1) ([] ++ [] ++ [.string e.l] ++ [])) ∧ Aside0 (wo.grownBy wc (some (w.heap.size + 1))) := by assumption
                  clear HBX
                  obtain ⟨g2, cap2, rfl, HTB2, HVL2, HGR⟩ := hrel3
                  have hb0 := HBLK.out
                  have HC := Aside0.mk (And.intro (grown_cell HGR.out HQ.out.2.1 (by omega)) (And.intro (grown_cell HGR.out HQ.out.2.2.1 (by show (bd.add (k * 5)).block ≠ _; omega)) (And.intro (grown_cell HGR.out HQ.out.2.2.2.1 (by show (bd.add (k * 5)).block ≠ _; omega)) (And.intro (grown_cell HGR.out HQ.out.2.2.2.2.1 (by show (bd.add (k * 5)).block ≠ _; omega)) (grown_cell HGR.out HQ.out.2.2.2.2.2 (by show (bd.add (k * 5)).block ≠ _; omega))))))
                  clear hb0
                  have HT4 := Aside0.mk (show wc.cell? ⟨w.heap.size + 1, 4, none⟩ = some (.slice none 0 0) from by have h_ := blk_cell HTB2.out 4; simp at h_; rw [h_, HNIL0.out.2])
                  have t4 := HT4.out
                  have tz := fun i => blk_frozen HTB2.out i
                  have hz2 : w.heap.size + 1 < wc.heap.size := Nat.lt_of_lt_of_le hz HGR.out.size
                  have HBX := Aside0.mk (Below.refl wc.heap.size wc)
                  go_wp2_with (fail)
                  refine start_ (n := 19) (S := (S8 wc (w.heap.size + 1) (.slice none 0 0) (bd.add (k * 5)) (.int .i64 e.v.x.f0) (.int .i64 e.v.x.f1) (.string e.v.x.f2) (.slice e.v.A3 e.v.x.f3.length e.v.c3) (.slice e.v.A4 e.v.x.f4.length e.v.c4))) (ds := [18]) #[false, false, false, false, false, false, false, false, false, false, false, false, false, false, false, false, false, false, false] (by kernel_rfl) rfl rfl (S8.of HT4.out HC.out.1 HC.out.2.1 HC.out.2.2.1 HC.out.2.2.2.1 HC.out.2.2.2.2 (below_drew HBX.out)) (fun hHeld => ?_)
                  obtain ⟨wd, hwd⟩ : ∃ x, x = wc.drew := ⟨_, rfl⟩
                  rw [← hwd] at hHeld ⊢
                  clear hwd
                  have HWD := Aside0.mk hHeld.2.2.2.2.2.2
                  refine pure_ (i := 1) (N := some 77) (v := ?_) (a' := ?_) #[false, true, false, false, false, false, false, false, false, false, false, false, false, false, false, false, false, false, false] rfl rfl (by kernel_rfl) (fun _ _ _ h => h) (Or.inl ⟨by rfl, ?_⟩) ?_ ?_
                  rotate_left
                  · intro w'
                    go_simp
                    with_reducible rfl
                  rotate_left
                  · simp only [putAll, Act.put, List.setIfInBounds_toArray, List.set_cons_zero, List.set_cons_succ]
                    rfl
                  refine take_ (i := 2) (N := some 78) (v := ?_) (a' := ?_) #[false, true, true, false, false, false, false, false, false, false, false, false, false, false, false, false, false, false, false] rfl rfl (by kernel_rfl) (fun _ _ _ h => h) (Or.inl ⟨by rfl, ?_⟩) hHeld ?_ ?_
                  rotate_left
                  · rintro w' ⟨s0, s1, s2, s3, s4, s5, _⟩
                    go_simp
                    with_reducible rfl
                  rotate_left
                  · simp only [putAll, Act.put, List.setIfInBounds_toArray, List.set_cons_zero, List.set_cons_succ]
                    rfl
                  refine pure_ (i := 3) (N := some 79) (v := ?_) (a' := ?_) #[false, true, true, true, false, false, false, false, false, false, false, false, false, false, false, false, false, false, false] rfl rfl (by kernel_rfl) (fun _ _ _ h => h) (Or.inl ⟨by rfl, ?_⟩) ?_ ?_
                  rotate_left
                  · intro w'
                    go_simp
                    with_reducible rfl
                  rotate_left
                  · simp only [putAll, Act.put, List.setIfInBounds_toArray, List.set_cons_zero, List.set_cons_succ]
                    rfl
                  refine pure_ (i := 4) (N := some 80) (v := ?_) (a' := ?_) #[false, true, true, true, true, false, false, false, false, false, false, false, false, false, false, false, false, false, false] rfl rfl (by kernel_rfl) (fun _ _ _ h => h) (Or.inl ⟨by rfl, ?_⟩) ?_ ?_
                  rotate_left
                  · intro w'
                    go_simp
                    with_reducible rfl
                  rotate_left
                  · simp only [putAll, Act.put, List.setIfInBounds_toArray, List.set_cons_zero, List.set_cons_succ]
                    rfl
                  refine pure_ (i := 6) (N := some 82) (v := ?_) (a' := ?_) #[false, true, true, true, true, false, true, false, false, false, false, false, false, false, false, false, false, false, false] rfl rfl (by kernel_rfl) (fun _ _ _ h => h) (Or.inl ⟨by rfl, ?_⟩) ?_ ?_
                  rotate_left
                  · intro w'
                    go_simp
                    with_reducible rfl
                  rotate_left
                  · simp only [putAll, Act.put, List.setIfInBounds_toArray, List.set_cons_zero, List.set_cons_succ]
                    rfl
                  refine pure_ (i := 7) (N := some 83) (v := ?_) (a' := ?_) #[false, true, true, true, true, false, true, true, false, false, false, false, false, false, false, false, false, false, false] rfl rfl (by kernel_rfl) (fun _ _ _ h => h) (Or.inl ⟨by rfl, ?_⟩) ?_ ?_
                  rotate_left
                  · intro w'
                    go_simp
                    with_reducible rfl
                  rotate_left
                  · simp only [putAll, Act.put, List.setIfInBounds_toArray, List.set_cons_zero, List.set_cons_succ]
                    rfl
                  refine pure_ (i := 8) (N := some 84) (v := ?_) (a' := ?_) #[false, true, true, true, true, false, true, true, true, false, false, false, false, false, false, false, false, false, false] rfl rfl (by kernel_rfl) (fun _ _ _ h => h) (Or.inl ⟨by rfl, ?_⟩) ?_ ?_
                  rotate_left
                  · intro w'
                    go_simp
                    with_reducible rfl
                  rotate_left
                  · simp only [putAll, Act.put, List.setIfInBounds_toArray, List.set_cons_zero, List.set_cons_succ]
                    rfl
                  refine take_ (i := 9) (N := some 85) (v := ?_) (a' := ?_) #[false, true, true, true, true, false, true, true, true, true, false, false, false, false, false, false, false, false, false] rfl rfl (by kernel_rfl) (fun _ _ _ h => h) (Or.inl ⟨by rfl, ?_⟩) hHeld ?_ ?_
                  rotate_left
                  · rintro w' ⟨s0, s1, s2, s3, s4, s5, _⟩
                    go_simp
                    with_reducible rfl
                  rotate_left
                  · simp only [putAll, Act.put, List.setIfInBounds_toArray, List.set_cons_zero, List.set_cons_succ]
                    rfl
                  refine pure_ (i := 12) (N := some 88) (v := ?_) (a' := ?_) #[false, true, true, true, true, false, true, true, true, true, false, false, true, false, false, false, false, false, false] rfl rfl (by kernel_rfl) (fun _ _ _ h => h) (Or.inl ⟨by rfl, ?_⟩) ?_ ?_
                  rotate_left
                  · intro w'
                    go_simp
                    with_reducible rfl
                  rotate_left
                  · simp only [putAll, Act.put, List.setIfInBounds_toArray, List.set_cons_zero, List.set_cons_succ]
                    rfl
                  refine take_ (i := 13) (N := some 89) (v := ?_) (a' := ?_) #[false, true, true, true, true, false, true, true, true, true, false, false, true, true, false, false, false, false, false] rfl rfl (by kernel_rfl) (fun _ _ _ h => h) (Or.inl ⟨by rfl, ?_⟩) hHeld ?_ ?_
                  rotate_left
                  · rintro w' ⟨s0, s1, s2, s3, s4, s5, _⟩
                    go_simp
                    with_reducible rfl
                  rotate_left
                  · simp only [putAll, Act.put, List.setIfInBounds_toArray, List.set_cons_zero, List.set_cons_succ]
                    rfl
                  refine pure_ (i := 14) (N := some 90) (v := ?_) (a' := ?_) #[false, true, true, true, true, false, true, true, true, true, false, false, true, true, true, false, false, false, false] rfl rfl (by kernel_rfl) (fun _ _ _ h => h) (Or.inl ⟨by rfl, ?_⟩) ?_ ?_
                  rotate_left
                  · intro w'
                    go_simp
                    with_reducible rfl
                  rotate_left
                  · simp only [putAll, Act.put, List.setIfInBounds_toArray, List.set_cons_zero, List.set_cons_succ]
                    rfl
                  refine pure_ (i := 15) (N := some 91) (v := ?_) (a' := ?_) #[false, true, true, true, true, false, true, true, true, true, false, false, true, true, true, true, false, false, false] rfl rfl (by kernel_rfl) (fun _ _ _ h => h) (Or.inl ⟨by rfl, ?_⟩) ?_ ?_
                  rotate_left
                  · intro w'
                    go_simp
                    with_reducible rfl
                  rotate_left
                  · simp only [putAll, Act.put, List.setIfInBounds_toArray, List.set_cons_zero, List.set_cons_succ]
                    rfl
                  refine join_ (σ := Nat × Nat × Value) 4 #[true, true, true, true, true, true, true, true, true, true, true, false, true, true, true, true, false, false, false] (fun s_ => [(76, .slice (some ⟨s_.1, 0, none⟩) 0 0), (86, .slice (some ⟨s_.2.1, 0, none⟩) 1 1), (81, s_.2.2)]) (fun (s_ : Nat × Nat × Value) w' => S8 wc (w.heap.size + 1) (.slice none 0 0) (bd.add (k * 5)) (.int .i64 e.v.x.f0) (.int .i64 e.v.x.f1) (.string e.v.x.f2) (.slice e.v.A3 e.v.x.f3.length e.v.c3) (.slice e.v.A4 e.v.x.f4.length e.v.c4) w' ∧ w'.heap[s_.2.1]? = some (.cells ([.int .i64 e.v.x.f0, .int .i64 e.v.x.f1, .string e.v.x.f2, .slice e.v.A3 e.v.x.f3.length e.v.c3, .slice e.v.A4 e.v.x.f4.length e.v.c4]).toArray 26 (0, 0)) ∧ w'.ownsRow wc.heap.size 26 5 s_.2.2 (0 + 0) ([] ++ [])) ?_ ?_
                  rotate_left
                  · intro hCont
                    refine two_ (i := 0) (j := 10) (Ni := some 76) (Nj := some 86) #[true, true, true, true, true, false, true, true, true, true, false, false, true, true, true, true, false, false, false] #[false, true, true, true, true, false, true, true, true, true, true, false, true, true, true, true, false, false, false] rfl rfl rfl rfl (by kernel_rfl) (by decide) (by decide) (fun K hK => ?_) (fun K hK => ?_)
                    · skip
                      go_simp
                      refine hK.out _ _ (S8.of HT4.out HC.out.1 HC.out.2.1 HC.out.2.2.1 HC.out.2.2.2.1 HC.out.2.2.2.2 (below_alloc hHeld.2.2.2.2.2.2 _)) (fun hHeld => ?_)
                      clear hK K
                      refine two_ (i := 5) (j := 10) (Ni := some 81) (Nj := some 86) #[true, true, true, true, true, true, true, true, true, true, false, false, true, true, true, true, false, false, false] #[true, true, true, true, true, false, true, true, true, true, true, false, true, true, true, true, false, false, false] rfl rfl rfl rfl (by kernel_rfl) (by decide) (by decide) (fun K hK => ?_) (fun K hK => ?_)
                      · skip
                        refine step_app (w0 := wc) wc.heap.size (by rfl) (.tmp 76) (.tmp 80) 24 26 (.agg #[(.int .i64 0), (.int .i64 0), (.string ⟨#[]⟩), (.slice none 0 0), (.slice none 0 0)]) 5 80 (by rfl) Try.underlying24 info26 (by rfl) (by decide) (by decide) (.slice (some ⟨wd.heap.size, 0, none⟩) 0 0) (.slice none 0 0) 0 0 [] [] (by rfl) (by rfl) ?HO ?HN ?HB (by rfl) ?hl ?_
                        case HO => exact (own_empty (blk_newR _ _ rfl) (by have h_ := HWD.out.size; omega))
                        case HN => exact news_nil
                        case HB => exact hHeld.2.2.2.2.2.2
                        case hl => have := HLS.out; have := HN.out; have := HLT.out; have := HQK2.out; omega
                        intro va wa aa
                        have Aa := Aside0.mk aa
                        clear aa
                        refine hK.out _ _ (S8.of HT4.out HC.out.1 HC.out.2.1 HC.out.2.2.1 HC.out.2.2.2.1 HC.out.2.2.2.2 Aa.out.low) (fun hHeld => ?_)
                        clear hK K
                        refine norm_ (a' := ?_) ?_ ?_
                        rotate_left
                        · show Act.put _ (some 81) _ = _
                          simp only [putAll, Act.put, List.setIfInBounds_toArray, List.set_cons_zero, List.set_cons_succ]
                          rfl
                        refine one_ (i := 10) (N := some 86) #[true, true, true, true, true, true, true, true, true, true, true, false, true, true, true, true, false, false, false] rfl rfl (by kernel_rfl) (by decide) (fun K hK => ?_)
                        go_simp
                        refine hK.out _ _ (S8.of HT4.out HC.out.1 HC.out.2.1 HC.out.2.2.1 HC.out.2.2.2.1 HC.out.2.2.2.2 (below_alloc Aa.out.low _)) (fun hHeld => ?_)
                        clear hK K
                        exact norm_ (by simp only [putAll, Act.put, List.setIfInBounds_toArray, List.set_cons_zero, List.set_cons_succ]) (hCont (wd.heap.size, wa.heap.size, va) _ ⟨hHeld, blk_newR _ _ rfl, Aa.out.own.alloc _⟩)
                      · skip
                        go_simp
                        refine hK.out _ _ (S8.of HT4.out HC.out.1 HC.out.2.1 HC.out.2.2.1 HC.out.2.2.2.1 HC.out.2.2.2.2 (below_alloc hHeld.2.2.2.2.2.2 _)) (fun hHeld => ?_)
                        clear hK K
                        refine one_ (i := 5) (N := some 81) #[true, true, true, true, true, true, true, true, true, true, true, false, true, true, true, true, false, false, false] rfl rfl (by kernel_rfl) (by decide) (fun K hK => ?_)
                        refine step_app (w0 := wc) wc.heap.size (by rfl) (.tmp 76) (.tmp 80) 24 26 (.agg #[(.int .i64 0), (.int .i64 0), (.string ⟨#[]⟩), (.slice none 0 0), (.slice none 0 0)]) 5 80 (by rfl) Try.underlying24 info26 (by rfl) (by decide) (by decide) (.slice (some ⟨wd.heap.size, 0, none⟩) 0 0) (.slice none 0 0) 0 0 [] [] (by rfl) (by rfl) ?HO ?HN ?HB (by rfl) ?hl ?_
                        case HO => exact (own_empty (blk_alloc (blk_newR _ _ rfl) _) (by have h_ := HWD.out.size; omega))
                        case HN => exact news_nil
                        case HB => exact hHeld.2.2.2.2.2.2
                        case hl => have := HLS.out; have := HN.out; have := HLT.out; have := HQK2.out; omega
                        intro vb wb ab
                        have Ab := Aside0.mk ab
                        clear ab
                        refine hK.out _ _ (S8.of HT4.out HC.out.1 HC.out.2.1 HC.out.2.2.1 HC.out.2.2.2.1 HC.out.2.2.2.2 Ab.out.low) (fun hHeld => ?_)
                        clear hK K
                        refine norm_ (a' := ?_) ?_ ?_
                        rotate_left
                        · show Act.put _ (some 81) _ = _
                          simp only [putAll, Act.put, List.setIfInBounds_toArray, List.set_cons_zero, List.set_cons_succ]
                          rfl
                        exact norm_ (by simp only [putAll, Act.put, List.setIfInBounds_toArray, List.set_cons_zero, List.set_cons_succ]) (hCont (wd.heap.size, wd.heap.size + 1, vb) _ ⟨hHeld, (Ab.out.grow.block _ (by simp) (by simp [Value.ownBlock])).trans (blk_newR _ _ (by simp)), Ab.out.own⟩)
                    · skip
                      go_simp
                      refine hK.out _ _ (S8.of HT4.out HC.out.1 HC.out.2.1 HC.out.2.2.1 HC.out.2.2.2.1 HC.out.2.2.2.2 (below_alloc hHeld.2.2.2.2.2.2 _)) (fun hHeld => ?_)
                      clear hK K
                      refine one_ (i := 0) (N := some 76) #[true, true, true, true, true, false, true, true, true, true, true, false, true, true, true, true, false, false, false] rfl rfl (by kernel_rfl) (by decide) (fun K hK => ?_)
                      go_simp
                      refine hK.out _ _ (S8.of HT4.out HC.out.1 HC.out.2.1 HC.out.2.2.1 HC.out.2.2.2.1 HC.out.2.2.2.2 (below_alloc hHeld.2.2.2.2.2.2 _)) (fun hHeld => ?_)
                      clear hK K
                      refine one_ (i := 5) (N := some 81) #[true, true, true, true, true, true, true, true, true, true, true, false, true, true, true, true, false, false, false] rfl rfl (by kernel_rfl) (by decide) (fun K hK => ?_)
                      refine step_app (w0 := wc) wc.heap.size (by rfl) (.tmp 76) (.tmp 80) 24 26 (.agg #[(.int .i64 0), (.int .i64 0), (.string ⟨#[]⟩), (.slice none 0 0), (.slice none 0 0)]) 5 80 (by rfl) Try.underlying24 info26 (by rfl) (by decide) (by decide) (.slice (some ⟨wd.heap.size + 1, 0, none⟩) 0 0) (.slice none 0 0) 0 0 [] [] (by rfl) (by rfl) ?HO ?HN ?HB (by rfl) ?hl ?_
                      case HO => exact (own_empty (blk_newR _ _ (by simp)) (by have h_ := HWD.out.size; omega))
                      case HN => exact news_nil
                      case HB => exact hHeld.2.2.2.2.2.2
                      case hl => have := HLS.out; have := HN.out; have := HLT.out; have := HQK2.out; omega
                      intro vc wc ac
                      have Ac := Aside0.mk ac
                      clear ac
                      refine hK.out _ _ (S8.of HT4.out HC.out.1 HC.out.2.1 HC.out.2.2.1 HC.out.2.2.2.1 HC.out.2.2.2.2 Ac.out.low) (fun hHeld => ?_)
                      clear hK K
                      refine norm_ (a' := ?_) ?_ ?_
                      rotate_left
                      · show Act.put _ (some 81) _ = _
                        simp only [putAll, Act.put, List.setIfInBounds_toArray, List.set_cons_zero, List.set_cons_succ]
                        rfl
                      exact norm_ (by simp only [putAll, Act.put, List.setIfInBounds_toArray, List.set_cons_zero, List.set_cons_succ]) (hCont (wd.heap.size + 1, wd.heap.size, vc) _ ⟨hHeld, (Ac.out.grow.block _ (by simp; omega) (by simp [Value.ownBlock])).trans (blk_alloc (blk_newR _ _ rfl) _), Ac.out.own⟩)
                  rintro ⟨g58, g68, v63⟩ wj hj
                  obtain ⟨hHeld, hj1, hj2⟩ := hj
                  have HJ1 := Aside0.mk hj1
                  have HJ2 := Aside0.mk hj2
                  clear hj1 hj2
                  dsimp only at HJ1 HJ2
                  refine norm_ (a' := ?_) ?_ ?_
                  rotate_left
                  · simp only [putAll, Act.put, List.setIfInBounds_toArray, List.set_cons_zero, List.set_cons_succ]
                    rfl
                  refine one_ (i := 11) (N := some 87) #[true, true, true, true, true, true, true, true, true, true, true, true, true, true, true, true, false, false, false] rfl rfl (by kernel_rfl) (by decide) (fun K hK => ?_)
                  refine step_app (w0 := wc) wc.heap.size (by rfl) (.tmp 81) (.tmp 86) 24 26 (.agg #[(.int .i64 0), (.int .i64 0), (.string ⟨#[]⟩), (.slice none 0 0), (.slice none 0 0)]) 5 80 (by rfl) Try.underlying24 info26 (by rfl) (by decide) (by decide) v63 (.slice (some ⟨g68, 0, none⟩) 1 1) (0 + 0) 1 ([] ++ []) [.int .i64 e.v.x.f0, .int .i64 e.v.x.f1, .string e.v.x.f2, .slice e.v.A3 e.v.x.f3.length e.v.c3, .slice e.v.A4 e.v.x.f4.length e.v.c4] (by rfl) (by rfl) ?HO ?HN ?HB (by rfl) ?hl ?_
                  case HO => exact HJ2.out
                  case HN => exact (news_blk HJ1.out rfl (FE.h15 e))
                  case HB => exact hHeld.2.2.2.2.2.2
                  case hl => have := HLS.out; have := HN.out; have := HLT.out; have := HQK2.out; omega
                  intro vd wd ad
                  have Ad := Aside0.mk ad
                  clear ad
                  refine hK.out _ _ (S8.of HT4.out HC.out.1 HC.out.2.1 HC.out.2.2.1 HC.out.2.2.2.1 HC.out.2.2.2.2 Ad.out.low) (fun hHeld => ?_)
                  clear hK K
                  refine norm_ (a' := ?_) ?_ ?_
                  rotate_left
                  · show Act.put _ (some 87) _ = _
                    simp only [putAll, Act.put, List.setIfInBounds_toArray, List.set_cons_zero, List.set_cons_succ]
                    rfl
                  refine one_ (i := 16) (N := some 92) #[true, true, true, true, true, true, true, true, true, true, true, true, true, true, true, true, true, false, false] rfl rfl (by kernel_rfl) (by decide) (fun K hK => ?_)
                  refine step_app (w0 := wc) wc.heap.size (by rfl) (.tmp 87) (.tmp 91) 24 26 (.agg #[(.int .i64 0), (.int .i64 0), (.string ⟨#[]⟩), (.slice none 0 0), (.slice none 0 0)]) 5 80 (by rfl) Try.underlying24 info26 (by rfl) (by decide) (by decide) vd (.slice none 0 0) (0 + 0 + 1) 0 ([] ++ [] ++ [.int .i64 e.v.x.f0, .int .i64 e.v.x.f1, .string e.v.x.f2, .slice e.v.A3 e.v.x.f3.length e.v.c3, .slice e.v.A4 e.v.x.f4.length e.v.c4]) [] (by rfl) (by rfl) ?HO ?HN ?HB (by rfl) ?hl ?_
                  case HO => exact Ad.out.own
                  case HN => exact news_nil
                  case HB => exact hHeld.2.2.2.2.2.2
                  case hl => have := HLS.out; have := HN.out; have := HLT.out; have := HQK2.out; omega
                  intro ve we ae
                  have Ae := Aside0.mk ae
                  clear ae
                  have he_ := Ae.out.own
                  rw [show 0 + 0 + 1 + 0 = k + 1 by have := HQK2.out; omega] at he_
                  obtain ⟨g2, cap2, rfl⟩ := ownsRow_succ he_
                  have HE := Aside0.mk he_
                  clear he_
                  refine hK.out _ _ (S8.of HT4.out HC.out.1 HC.out.2.1 HC.out.2.2.1 HC.out.2.2.2.1 HC.out.2.2.2.2 Ae.out.low) (fun hHeld => ?_)
                  clear hK K
                  refine norm_ (a' := ?_) ?_ ?_
                  rotate_left
                  · show Act.put _ (some 92) _ = _
                    simp only [putAll, Act.put, List.setIfInBounds_toArray, List.set_cons_zero, List.set_cons_succ]
                    rfl
                  refine pure_ (i := 17) (N := some 93) (v := ?_) (a' := ?_) #[true, true, true, true, true, true, true, true, true, true, true, true, true, true, true, true, true, true, false] rfl rfl (by kernel_rfl) (fun _ _ _ h => h) (Or.inl ⟨by rfl, ?_⟩) ?_ ?_
                  rotate_left
                  · intro w'
                    go_simp
                    with_reducible rfl
                  rotate_left
                  · simp only [putAll, Act.put, List.setIfInBounds_toArray, List.set_cons_zero, List.set_cons_succ]
                    rfl
                  refine last_ (i := 18) (N := none) #[true, true, true, true, true, true, true, true, true, true, true, true, true, true, true, true, true, true, true] rfl rfl (by kernel_rfl) (by decide) (fun K hK => ?_)
                  obtain ⟨hcell, hfroz⟩ := bcell Ae.out.low
                  go_simp
                  refine hK.out _ _ ?_
                  clear hK K
                  refine done_ (by kernel_rfl) ?_
                  have HXL := Aside0.mk (show insF 0 e acc = [e] from by rw [HACC0.out]; rfl)
                  go_wp2
                  all_goals
                    go_roundg (gk - 1)
                    case measure => have := HK.out; have := HLT.out; omega
                    case rel => exact ⟨k + 1, insF 0 e acc, _, _, by go_num, ⟨by have := HK.out; have := HLT.out; omega⟩, ⟨by rw [insF_len, HACC.out.1], insF_mem HACC.out.2.1 HMEM.out, by rw [HX.out, insF_p 0 e acc HAT.out]⟩, ⟨blk_put ((Ae.out.low.block _ hz2).trans HTB2.out) 4 _ rfl⟩, ⟨fun h => by omega⟩, ⟨by rw [HXL.out]; exact HVL2.out.kept (grownBy_store Ae.out.low _ _ _) (own_far (T := w.heap.size + 1) HVL2.out)⟩, ⟨by rw [HXL.out]; exact own_store HE.out hz2 (by omega)⟩, ⟨HB.out.trans (below_of_grown (World.grownBy.trans HGR.out (grownBy_store Ae.out.low _ _ _)) (by omega))⟩, ⟨by rw [World.size_setCell]; have := Ae.out.low.size; omega⟩⟩
              · have hkp : 0 < k := by omega
                obtain ⟨g1, cap1, hg1⟩ : ∃ g cap, AL = some ⟨g, 0, none⟩ ∧ cl = cap := by
                  rcases HVL.out.2 with ⟨_, h⟩ | ⟨g, cap, cur, h, _⟩
                  · exact absurd h hk0
                  · rw [HVLE.out] at h
                    cases h
                    exact ⟨g, _, rfl, rfl⟩
                obtain ⟨rfl, rfl⟩ := hg1
                have hvl := HVLE.out
                subst hvl
                have HKP := Aside0.mk hkp
                have hqk : q ≤ k := by rw [HAT.out]; have := atP_le (prF e) (acc.map prF); rw [List.length_map, HACC.out.1] at this; exact this
                have HQK2 := Aside0.mk hqk
                have HLCX := HLC
                have hqc : q ≤ cl := Nat.le_trans hqk HLC.out
                have hqZ : (q : Int) ≤ (cl : Int) := by omega
                have hqZ2 : (q : Int) ≤ (k : Int) := by omega
                have hq0 : (0 : Int) ≤ (q : Int) := by omega
                have hkc : (k : Int) ≤ (cl : Int) := by have := HLC.out; omega
                have t3 := HT3.out
                have tz := fun i => blk_frozen HTB.out i
                clear hk0 hkp hqc
                go_upto_region 13 with (fail)
                go_cut [8] (fun v8 w2 => ∃ (g2 cap2 : Nat), v8 = .int .i64 q ∧ Aside0 (w2.heap[w.heap.size + 1]? = some (.cells #[.int .i64 8, .int .i64 0, .string ⟨#[]⟩, .slice (some ⟨g2, 0, none⟩) (k + 1) cap2, vA] 26 (0, 0))) ∧ Aside0 (w2.ownsRow (w.heap.size + 2) 9 1 (.slice (some ⟨g2, 0, none⟩) (k + 1) cap2) (k + 1) ([] ++ (((acc.map FE.l).map Value.string).take (q * 1)) ++ [.string e.l] ++ (((acc.map FE.l).map Value.string).drop (q * 1)))) ∧ Aside0 (wo.grownBy w2 (some (w.heap.size + 1))))
                case first =>
                  go_wp2_with (fail)
                  refine start_ (n := 19) (S := (S7 wo (w.heap.size + 1) (.slice (some ⟨g1, 0, none⟩) k cl) (ad.add k) e.l)) (ds := [18]) #[false, false, false, false, false, false, false, false, false, false, false, false, false, false, false, false, false, false, false] (by kernel_rfl) rfl rfl (S7.of HT3.out HQ.out.1 (below_drew HBX.out)) (fun hHeld => ?_)
                  obtain ⟨wd, hwd⟩ : ∃ x, x = wc.drew := ⟨_, rfl⟩
                  rw [← hwd] at hHeld ⊢
                  clear hwd
                  have HWD := Aside0.mk hHeld.2.2
                  refine pure_ (i := 1) (N := some 59) (v := ?_) (a' := ?_) #[false, true, false, false, false, false, false, false, false, false, false, false, false, false, false, false, false, false, false] rfl rfl (by kernel_rfl) (fun _ _ _ h => h) (Or.inl ⟨by rfl, ?_⟩) ?_ ?_
                  rotate_left
                  · intro w'
                    go_simp
                    with_reducible rfl
                  rotate_left
                  · simp only [putAll, Act.put, List.setIfInBounds_toArray, List.set_cons_zero, List.set_cons_succ]
                    rfl
                  refine take_ (i := 2) (N := some 60) (v := ?_) (a' := ?_) #[false, true, true, false, false, false, false, false, false, false, false, false, false, false, false, false, false, false, false] rfl rfl (by kernel_rfl) (fun _ _ _ h => h) (Or.inl ⟨by rfl, ?_⟩) hHeld ?_ ?_
                  rotate_left
                  · rintro w' ⟨s0, s1, _⟩
                    go_simp
                    with_reducible rfl
                  rotate_left
                  · simp only [putAll, Act.put, List.setIfInBounds_toArray, List.set_cons_zero, List.set_cons_succ]
                    rfl
                  refine pure_ (i := 3) (N := some 61) (v := ?_) (a' := ?_) #[false, true, true, true, false, false, false, false, false, false, false, false, false, false, false, false, false, false, false] rfl rfl (by kernel_rfl) (fun _ _ _ h => h) (Or.inl ⟨by rfl, ?_⟩) ?_ ?_
                  rotate_left
                  · intro w'
                    go_simp
                    with_reducible rfl
                  rotate_left
                  · simp only [putAll, Act.put, List.setIfInBounds_toArray, List.set_cons_zero, List.set_cons_succ]
                    rfl
                  refine pure_ (i := 4) (N := some 62) (v := ?_) (a' := ?_) #[false, true, true, true, true, false, false, false, false, false, false, false, false, false, false, false, false, false, false] rfl rfl (by kernel_rfl) (fun _ _ _ h => h) (Or.inl ⟨by rfl, ?_⟩) ?_ ?_
                  rotate_left
                  · intro w'
                    go_simp
                    with_reducible rfl
                  rotate_left
                  · simp only [putAll, Act.put, List.setIfInBounds_toArray, List.set_cons_zero, List.set_cons_succ]
                    rfl
                  refine pure_ (i := 6) (N := some 64) (v := ?_) (a' := ?_) #[false, true, true, true, true, false, true, false, false, false, false, false, false, false, false, false, false, false, false] rfl rfl (by kernel_rfl) (fun _ _ _ h => h) (Or.inl ⟨by rfl, ?_⟩) ?_ ?_
                  rotate_left
                  · intro w'
                    go_simp
                    with_reducible rfl
                  rotate_left
                  · simp only [putAll, Act.put, List.setIfInBounds_toArray, List.set_cons_zero, List.set_cons_succ]
                    rfl
                  refine pure_ (i := 7) (N := some 65) (v := ?_) (a' := ?_) #[false, true, true, true, true, false, true, true, false, false, false, false, false, false, false, false, false, false, false] rfl rfl (by kernel_rfl) (fun _ _ _ h => h) (Or.inl ⟨by rfl, ?_⟩) ?_ ?_
                  rotate_left
                  · intro w'
                    go_simp
                    with_reducible rfl
                  rotate_left
                  · simp only [putAll, Act.put, List.setIfInBounds_toArray, List.set_cons_zero, List.set_cons_succ]
                    rfl
                  refine pure_ (i := 8) (N := some 66) (v := ?_) (a' := ?_) #[false, true, true, true, true, false, true, true, true, false, false, false, false, false, false, false, false, false, false] rfl rfl (by kernel_rfl) (fun _ _ _ h => h) (Or.inl ⟨by rfl, ?_⟩) ?_ ?_
                  rotate_left
                  · intro w'
                    go_simp
                    with_reducible rfl
                  rotate_left
                  · simp only [putAll, Act.put, List.setIfInBounds_toArray, List.set_cons_zero, List.set_cons_succ]
                    rfl
                  refine take_ (i := 9) (N := some 67) (v := ?_) (a' := ?_) #[false, true, true, true, true, false, true, true, true, true, false, false, false, false, false, false, false, false, false] rfl rfl (by kernel_rfl) (fun _ _ _ h => h) (Or.inl ⟨by rfl, ?_⟩) hHeld ?_ ?_
                  rotate_left
                  · rintro w' ⟨s0, s1, _⟩
                    go_simp
                    with_reducible rfl
                  rotate_left
                  · simp only [putAll, Act.put, List.setIfInBounds_toArray, List.set_cons_zero, List.set_cons_succ]
                    rfl
                  refine pure_ (i := 12) (N := some 70) (v := ?_) (a' := ?_) #[false, true, true, true, true, false, true, true, true, true, false, false, true, false, false, false, false, false, false] rfl rfl (by kernel_rfl) (fun _ _ _ h => h) (Or.inl ⟨by rfl, ?_⟩) ?_ ?_
                  rotate_left
                  · intro w'
                    go_simp
                    with_reducible rfl
                  rotate_left
                  · simp only [putAll, Act.put, List.setIfInBounds_toArray, List.set_cons_zero, List.set_cons_succ]
                    rfl
                  refine take_ (i := 13) (N := some 71) (v := ?_) (a' := ?_) #[false, true, true, true, true, false, true, true, true, true, false, false, true, true, false, false, false, false, false] rfl rfl (by kernel_rfl) (fun _ _ _ h => h) (Or.inl ⟨by rfl, ?_⟩) hHeld ?_ ?_
                  rotate_left
                  · rintro w' ⟨s0, s1, _⟩
                    go_simp
                    with_reducible rfl
                  rotate_left
                  · simp only [putAll, Act.put, List.setIfInBounds_toArray, List.set_cons_zero, List.set_cons_succ]
                    rfl
                  refine pure_ (i := 14) (N := some 72) (v := ?_) (a' := ?_) #[false, true, true, true, true, false, true, true, true, true, false, false, true, true, true, false, false, false, false] rfl rfl (by kernel_rfl) (fun _ _ _ h => h) (Or.inl ⟨by rfl, ?_⟩) ?_ ?_
                  rotate_left
                  · intro w'
                    go_simp
                    with_reducible rfl
                  rotate_left
                  · simp only [putAll, Act.put, List.setIfInBounds_toArray, List.set_cons_zero, List.set_cons_succ]
                    rfl
                  refine pure_ (i := 15) (N := some 73) (v := ?_) (a' := ?_) #[false, true, true, true, true, false, true, true, true, true, false, false, true, true, true, true, false, false, false] rfl rfl (by kernel_rfl) (fun _ _ _ h => h) (Or.inl ⟨by rfl, ?_⟩) ?_ ?_
                  rotate_left
                  · intro w'
                    go_simp
                    with_reducible rfl
                  rotate_left
                  · simp only [putAll, Act.put, List.setIfInBounds_toArray, List.set_cons_zero, List.set_cons_succ]
                    rfl
                  refine join_ (σ := Nat × Nat × Value) 4 #[true, true, true, true, true, true, true, true, true, true, true, false, true, true, true, true, false, false, false] (fun s_ => [(58, .slice (some ⟨s_.1, 0, none⟩) 0 0), (68, .slice (some ⟨s_.2.1, 0, none⟩) 1 1), (63, s_.2.2)]) (fun (s_ : Nat × Nat × Value) w' => S7 wo (w.heap.size + 1) (.slice (some ⟨g1, 0, none⟩) k cl) (ad.add k) e.l w' ∧ w'.heap[s_.2.1]? = some (.cells ([.string e.l]).toArray 9 (0, 0)) ∧ w'.ownsRow wo.heap.size 9 1 s_.2.2 (0 + q) ([] ++ (((acc.map FE.l).map Value.string).take (q * 1)))) ?_ ?_
                  rotate_left
                  · intro hCont
                    refine two_ (i := 0) (j := 10) (Ni := some 58) (Nj := some 68) #[true, true, true, true, true, false, true, true, true, true, false, false, true, true, true, true, false, false, false] #[false, true, true, true, true, false, true, true, true, true, true, false, true, true, true, true, false, false, false] rfl rfl rfl rfl (by kernel_rfl) (by decide) (by decide) (fun K hK => ?_) (fun K hK => ?_)
                    · skip
                      go_simp
                      refine hK.out _ _ (S7.of HT3.out HQ.out.1 (below_alloc hHeld.2.2 _)) (fun hHeld => ?_)
                      clear hK K
                      refine two_ (i := 5) (j := 10) (Ni := some 63) (Nj := some 68) #[true, true, true, true, true, true, true, true, true, true, false, false, true, true, true, true, false, false, false] #[true, true, true, true, true, false, true, true, true, true, true, false, true, true, true, true, false, false, false] rfl rfl rfl rfl (by kernel_rfl) (by decide) (by decide) (fun K hK => ?_) (fun K hK => ?_)
                      · skip
                        refine step_app (w0 := wo) wo.heap.size (by rfl) (.tmp 58) (.tmp 62) 23 9 (.string ⟨#[]⟩) 1 16 (by rfl) Try.underlying23 info9 (by rfl) (by decide) (by decide) (.slice (some ⟨wd.heap.size, 0, none⟩) 0 0) (.slice (some ⟨g1, 0, none⟩) q _) 0 q [] (((acc.map FE.l).map Value.string).take (q * 1)) (by rfl) (by rfl) ?HO ?HN ?HB (by rfl) ?hl ?_
                        case HO => exact (own_empty (blk_newR _ _ rfl) (by have h_ := HWD.out.size; omega))
                        case HN => exact (news_take' hHeld.2.2 HVL.out (one_strs _) q _ HQK2.out)
                        case HB => exact hHeld.2.2
                        case hl => have := HLS.out; have := HN.out; have := HLT.out; have := HQK2.out; omega
                        intro va wa aa
                        have Aa := Aside0.mk aa
                        clear aa
                        refine hK.out _ _ (S7.of HT3.out HQ.out.1 Aa.out.low) (fun hHeld => ?_)
                        clear hK K
                        refine norm_ (a' := ?_) ?_ ?_
                        rotate_left
                        · show Act.put _ (some 63) _ = _
                          simp only [putAll, Act.put, List.setIfInBounds_toArray, List.set_cons_zero, List.set_cons_succ]
                          rfl
                        refine one_ (i := 10) (N := some 68) #[true, true, true, true, true, true, true, true, true, true, true, false, true, true, true, true, false, false, false] rfl rfl (by kernel_rfl) (by decide) (fun K hK => ?_)
                        go_simp
                        refine hK.out _ _ (S7.of HT3.out HQ.out.1 (below_alloc Aa.out.low _)) (fun hHeld => ?_)
                        clear hK K
                        exact norm_ (by simp only [putAll, Act.put, List.setIfInBounds_toArray, List.set_cons_zero, List.set_cons_succ]) (hCont (wd.heap.size, wa.heap.size, va) _ ⟨hHeld, blk_newR _ _ rfl, Aa.out.own.alloc _⟩)
                      · skip
                        go_simp
                        refine hK.out _ _ (S7.of HT3.out HQ.out.1 (below_alloc hHeld.2.2 _)) (fun hHeld => ?_)
                        clear hK K
                        refine one_ (i := 5) (N := some 63) #[true, true, true, true, true, true, true, true, true, true, true, false, true, true, true, true, false, false, false] rfl rfl (by kernel_rfl) (by decide) (fun K hK => ?_)
                        refine step_app (w0 := wo) wo.heap.size (by rfl) (.tmp 58) (.tmp 62) 23 9 (.string ⟨#[]⟩) 1 16 (by rfl) Try.underlying23 info9 (by rfl) (by decide) (by decide) (.slice (some ⟨wd.heap.size, 0, none⟩) 0 0) (.slice (some ⟨g1, 0, none⟩) q _) 0 q [] (((acc.map FE.l).map Value.string).take (q * 1)) (by rfl) (by rfl) ?HO ?HN ?HB (by rfl) ?hl ?_
                        case HO => exact (own_empty (blk_alloc (blk_newR _ _ rfl) _) (by have h_ := HWD.out.size; omega))
                        case HN => exact (news_take' hHeld.2.2 HVL.out (one_strs _) q _ HQK2.out)
                        case HB => exact hHeld.2.2
                        case hl => have := HLS.out; have := HN.out; have := HLT.out; have := HQK2.out; omega
                        intro vb wb ab
                        have Ab := Aside0.mk ab
                        clear ab
                        refine hK.out _ _ (S7.of HT3.out HQ.out.1 Ab.out.low) (fun hHeld => ?_)
                        clear hK K
                        refine norm_ (a' := ?_) ?_ ?_
                        rotate_left
                        · show Act.put _ (some 63) _ = _
                          simp only [putAll, Act.put, List.setIfInBounds_toArray, List.set_cons_zero, List.set_cons_succ]
                          rfl
                        exact norm_ (by simp only [putAll, Act.put, List.setIfInBounds_toArray, List.set_cons_zero, List.set_cons_succ]) (hCont (wd.heap.size, wd.heap.size + 1, vb) _ ⟨hHeld, (Ab.out.grow.block _ (by simp) (by simp [Value.ownBlock])).trans (blk_newR _ _ (by simp)), Ab.out.own⟩)
                    · skip
                      go_simp
                      refine hK.out _ _ (S7.of HT3.out HQ.out.1 (below_alloc hHeld.2.2 _)) (fun hHeld => ?_)
                      clear hK K
                      refine one_ (i := 0) (N := some 58) #[true, true, true, true, true, false, true, true, true, true, true, false, true, true, true, true, false, false, false] rfl rfl (by kernel_rfl) (by decide) (fun K hK => ?_)
                      go_simp
                      refine hK.out _ _ (S7.of HT3.out HQ.out.1 (below_alloc hHeld.2.2 _)) (fun hHeld => ?_)
                      clear hK K
                      refine one_ (i := 5) (N := some 63) #[true, true, true, true, true, true, true, true, true, true, true, false, true, true, true, true, false, false, false] rfl rfl (by kernel_rfl) (by decide) (fun K hK => ?_)
                      refine step_app (w0 := wo) wo.heap.size (by rfl) (.tmp 58) (.tmp 62) 23 9 (.string ⟨#[]⟩) 1 16 (by rfl) Try.underlying23 info9 (by rfl) (by decide) (by decide) (.slice (some ⟨wd.heap.size + 1, 0, none⟩) 0 0) (.slice (some ⟨g1, 0, none⟩) q _) 0 q [] (((acc.map FE.l).map Value.string).take (q * 1)) (by rfl) (by rfl) ?HO ?HN ?HB (by rfl) ?hl ?_
                      case HO => exact (own_empty (blk_newR _ _ (by simp)) (by have h_ := HWD.out.size; omega))
                      case HN => exact (news_take' hHeld.2.2 HVL.out (one_strs _) q _ HQK2.out)
                      case HB => exact hHeld.2.2
                      case hl => have := HLS.out; have := HN.out; have := HLT.out; have := HQK2.out; omega
                      intro vc wc ac
                      have Ac := Aside0.mk ac
                      clear ac
                      refine hK.out _ _ (S7.of HT3.out HQ.out.1 Ac.out.low) (fun hHeld => ?_)
                      clear hK K
                      refine norm_ (a' := ?_) ?_ ?_
                      rotate_left
                      · show Act.put _ (some 63) _ = _
                        simp only [putAll, Act.put, List.setIfInBounds_toArray, List.set_cons_zero, List.set_cons_succ]
                        rfl
                      exact norm_ (by simp only [putAll, Act.put, List.setIfInBounds_toArray, List.set_cons_zero, List.set_cons_succ]) (hCont (wd.heap.size + 1, wd.heap.size, vc) _ ⟨hHeld, (Ac.out.grow.block _ (by simp; omega) (by simp [Value.ownBlock])).trans (blk_alloc (blk_newR _ _ rfl) _), Ac.out.own⟩)
                  rintro ⟨g58, g68, v63⟩ wj hj
                  obtain ⟨hHeld, hj1, hj2⟩ := hj
                  have HJ1 := Aside0.mk hj1
                  have HJ2 := Aside0.mk hj2
                  clear hj1 hj2
                  dsimp only at HJ1 HJ2
                  refine norm_ (a' := ?_) ?_ ?_
                  rotate_left
                  · simp only [putAll, Act.put, List.setIfInBounds_toArray, List.set_cons_zero, List.set_cons_succ]
                    rfl
                  refine one_ (i := 11) (N := some 69) #[true, true, true, true, true, true, true, true, true, true, true, true, true, true, true, true, false, false, false] rfl rfl (by kernel_rfl) (by decide) (fun K hK => ?_)
                  refine step_app (w0 := wo) wo.heap.size (by rfl) (.tmp 63) (.tmp 68) 23 9 (.string ⟨#[]⟩) 1 16 (by rfl) Try.underlying23 info9 (by rfl) (by decide) (by decide) v63 (.slice (some ⟨g68, 0, none⟩) 1 1) (0 + q) 1 ([] ++ (((acc.map FE.l).map Value.string).take (q * 1))) [.string e.l] (by rfl) (by rfl) ?HO ?HN ?HB (by rfl) ?hl ?_
                  case HO => exact HJ2.out
                  case HN => exact (news_blk HJ1.out rfl (one_str _))
                  case HB => exact hHeld.2.2
                  case hl => have := HLS.out; have := HN.out; have := HLT.out; have := HQK2.out; omega
                  intro vd wd ad
                  have Ad := Aside0.mk ad
                  clear ad
                  refine hK.out _ _ (S7.of HT3.out HQ.out.1 Ad.out.low) (fun hHeld => ?_)
                  clear hK K
                  refine norm_ (a' := ?_) ?_ ?_
                  rotate_left
                  · show Act.put _ (some 69) _ = _
                    simp only [putAll, Act.put, List.setIfInBounds_toArray, List.set_cons_zero, List.set_cons_succ]
                    rfl
                  refine one_ (i := 16) (N := some 74) #[true, true, true, true, true, true, true, true, true, true, true, true, true, true, true, true, true, false, false] rfl rfl (by kernel_rfl) (by decide) (fun K hK => ?_)
                  refine step_app (w0 := wo) wo.heap.size (by rfl) (.tmp 69) (.tmp 73) 23 9 (.string ⟨#[]⟩) 1 16 (by rfl) Try.underlying23 info9 (by rfl) (by decide) (by decide) vd (.slice (if cl = q then some ⟨g1, 0, none⟩ else some ⟨g1, q, none⟩) (k - q) (cl - q)) (0 + q + 1) (k - q) ([] ++ (((acc.map FE.l).map Value.string).take (q * 1)) ++ [.string e.l]) (((acc.map FE.l).map Value.string).drop (q * 1)) (by rfl) (by rfl) ?HO ?HN ?HB (by rfl) ?hl ?_
                  case HO => exact Ad.out.own
                  case HN => exact (news_dropI hHeld.2.2 HVL.out (one_strs _) q _ _ (by omega) HQK2.out HLCX.out)
                  case HB => exact hHeld.2.2
                  case hl => have := HLS.out; have := HN.out; have := HLT.out; have := HQK2.out; omega
                  intro ve we ae
                  have Ae := Aside0.mk ae
                  clear ae
                  have he_ := Ae.out.own
                  rw [show 0 + q + 1 + (k - q) = k + 1 by have := HQK2.out; omega] at he_
                  obtain ⟨g2, cap2, rfl⟩ := ownsRow_succ he_
                  have HE := Aside0.mk he_
                  clear he_
                  refine hK.out _ _ (S7.of HT3.out HQ.out.1 Ae.out.low) (fun hHeld => ?_)
                  clear hK K
                  refine norm_ (a' := ?_) ?_ ?_
                  rotate_left
                  · show Act.put _ (some 74) _ = _
                    simp only [putAll, Act.put, List.setIfInBounds_toArray, List.set_cons_zero, List.set_cons_succ]
                    rfl
                  refine pure_ (i := 17) (N := some 75) (v := ?_) (a' := ?_) #[true, true, true, true, true, true, true, true, true, true, true, true, true, true, true, true, true, true, false] rfl rfl (by kernel_rfl) (fun _ _ _ h => h) (Or.inl ⟨by rfl, ?_⟩) ?_ ?_
                  rotate_left
                  · intro w'
                    go_simp
                    with_reducible rfl
                  rotate_left
                  · simp only [putAll, Act.put, List.setIfInBounds_toArray, List.set_cons_zero, List.set_cons_succ]
                    rfl
                  refine last_ (i := 18) (N := none) #[true, true, true, true, true, true, true, true, true, true, true, true, true, true, true, true, true, true, true] rfl rfl (by kernel_rfl) (by decide) (fun K hK => ?_)
                  obtain ⟨hcell, hfroz⟩ := bcell Ae.out.low
                  go_simp
                  refine hK.out _ _ ?_
                  clear hK K
                  refine done_ (by kernel_rfl) ?_
                  go_wp2_with fail
                  all_goals
                    go_meet
                    case rel => exact ⟨g2, cap2, rfl, ⟨blk_put ((Ae.out.low.block _ hz).trans HTB.out) 3 _ rfl⟩, ⟨own_store HE.out hz (by have := HSZ.out; omega)⟩, ⟨grownBy_store Ae.out.low _ _ _⟩⟩
                case rest =>
                  have hrel3 : ∃ (g2 cap2 : Nat), u8 = .int .i64 q ∧ Aside0 (wc.heap[w.heap.size + 1]? = some (.cells #[.int .i64 8, .int .i64 0, .string ⟨#[]⟩, .slice (some ⟨g2, 0, none⟩) (k + 1) cap2, vA] 26 (0, 0))) ∧ Aside0 (wc.ownsRow (w.heap.size + 2) 9 1 (.slice (some ⟨g2, 0, none⟩) (k + 1) cap2) (k + 1) ([] ++ (((acc.map FE.l).map Value.string).take (q * 1)) ++ [.string e.l] ++ (((acc.map FE.l).map Value.string).drop (q * 1)))) ∧ Aside0 (wo.grownBy wc (some (w.heap.size + 1))) := by assumption
                  clear HBX
                  obtain ⟨g2, cap2, rfl, HTB2, HVL2, HGR⟩ := hrel3
                  have hb0 := HBLK.out
                  have HC := Aside0.mk (And.intro (grown_cell HGR.out HQ.out.2.1 (by omega)) (And.intro (grown_cell HGR.out HQ.out.2.2.1 (by show (bd.add (k * 5)).block ≠ _; omega)) (And.intro (grown_cell HGR.out HQ.out.2.2.2.1 (by show (bd.add (k * 5)).block ≠ _; omega)) (And.intro (grown_cell HGR.out HQ.out.2.2.2.2.1 (by show (bd.add (k * 5)).block ≠ _; omega)) (grown_cell HGR.out HQ.out.2.2.2.2.2 (by show (bd.add (k * 5)).block ≠ _; omega))))))
                  clear hb0
                  have HVA1 := Aside0.mk (HVA.out.kept HGR.out (own_far (T := w.heap.size + 1) HVA.out))
                  obtain ⟨ga, ca, hga⟩ : ∃ g cap, vA = .slice (some ⟨g, 0, none⟩) k cap := by
                    rcases HVA.out.2 with ⟨_, h⟩ | ⟨g, cap, cur, h, _⟩
                    · exact absurd h (by have := HKP.out; omega)
                    · exact ⟨g, _, h⟩
                  subst hga
                  have HVA2 := HVA1
                  have HLCX := Aside0.mk (show k ≤ ca from by
                    rcases HVA.out.2 with ⟨h, _⟩ | ⟨g, cap, cur, h, _, _, h2, _⟩
                    · cases h
                    · cases h; exact h2)
                  have hqk : q ≤ k := HQK2.out
                  have hqc : q ≤ ca := Nat.le_trans hqk HLCX.out
                  have hqZ : (q : Int) ≤ (ca : Int) := by omega
                  have hkc : (k : Int) ≤ (ca : Int) := by have := HLCX.out; omega
                  have t4 := blk_cell HTB2.out 4
                  simp at t4
                  have HT4 := Aside0.mk t4
                  have tz := fun i => blk_frozen HTB2.out i
                  have hz2 : w.heap.size + 1 < wc.heap.size := Nat.lt_of_lt_of_le hz HGR.out.size
                  have HBX := Aside0.mk (Below.refl wc.heap.size wc)
                  clear hqc
                  go_wp2_with (fail)
                  refine start_ (n := 19) (S := (S8 wc (w.heap.size + 1) (.slice (some ⟨ga, 0, none⟩) k ca) (bd.add (k * 5)) (.int .i64 e.v.x.f0) (.int .i64 e.v.x.f1) (.string e.v.x.f2) (.slice e.v.A3 e.v.x.f3.length e.v.c3) (.slice e.v.A4 e.v.x.f4.length e.v.c4))) (ds := [18]) #[false, false, false, false, false, false, false, false, false, false, false, false, false, false, false, false, false, false, false] (by kernel_rfl) rfl rfl (S8.of HT4.out HC.out.1 HC.out.2.1 HC.out.2.2.1 HC.out.2.2.2.1 HC.out.2.2.2.2 (below_drew HBX.out)) (fun hHeld => ?_)
                  obtain ⟨wd, hwd⟩ : ∃ x, x = wc.drew := ⟨_, rfl⟩
                  rw [← hwd] at hHeld ⊢
                  clear hwd
                  have HWD := Aside0.mk hHeld.2.2.2.2.2.2
                  refine pure_ (i := 1) (N := some 77) (v := ?_) (a' := ?_) #[false, true, false, false, false, false, false, false, false, false, false, false, false, false, false, false, false, false, false] rfl rfl (by kernel_rfl) (fun _ _ _ h => h) (Or.inl ⟨by rfl, ?_⟩) ?_ ?_
                  rotate_left
                  · intro w'
                    go_simp
                    with_reducible rfl
                  rotate_left
                  · simp only [putAll, Act.put, List.setIfInBounds_toArray, List.set_cons_zero, List.set_cons_succ]
                    rfl
                  refine take_ (i := 2) (N := some 78) (v := ?_) (a' := ?_) #[false, true, true, false, false, false, false, false, false, false, false, false, false, false, false, false, false, false, false] rfl rfl (by kernel_rfl) (fun _ _ _ h => h) (Or.inl ⟨by rfl, ?_⟩) hHeld ?_ ?_
                  rotate_left
                  · rintro w' ⟨s0, s1, s2, s3, s4, s5, _⟩
                    go_simp
                    with_reducible rfl
                  rotate_left
                  · simp only [putAll, Act.put, List.setIfInBounds_toArray, List.set_cons_zero, List.set_cons_succ]
                    rfl
                  refine pure_ (i := 3) (N := some 79) (v := ?_) (a' := ?_) #[false, true, true, true, false, false, false, false, false, false, false, false, false, false, false, false, false, false, false] rfl rfl (by kernel_rfl) (fun _ _ _ h => h) (Or.inl ⟨by rfl, ?_⟩) ?_ ?_
                  rotate_left
                  · intro w'
                    go_simp
                    with_reducible rfl
                  rotate_left
                  · simp only [putAll, Act.put, List.setIfInBounds_toArray, List.set_cons_zero, List.set_cons_succ]
                    rfl
                  refine pure_ (i := 4) (N := some 80) (v := ?_) (a' := ?_) #[false, true, true, true, true, false, false, false, false, false, false, false, false, false, false, false, false, false, false] rfl rfl (by kernel_rfl) (fun _ _ _ h => h) (Or.inl ⟨by rfl, ?_⟩) ?_ ?_
                  rotate_left
                  · intro w'
                    go_simp
                    with_reducible rfl
                  rotate_left
                  · simp only [putAll, Act.put, List.setIfInBounds_toArray, List.set_cons_zero, List.set_cons_succ]
                    rfl
                  refine pure_ (i := 6) (N := some 82) (v := ?_) (a' := ?_) #[false, true, true, true, true, false, true, false, false, false, false, false, false, false, false, false, false, false, false] rfl rfl (by kernel_rfl) (fun _ _ _ h => h) (Or.inl ⟨by rfl, ?_⟩) ?_ ?_
                  rotate_left
                  · intro w'
                    go_simp
                    with_reducible rfl
                  rotate_left
                  · simp only [putAll, Act.put, List.setIfInBounds_toArray, List.set_cons_zero, List.set_cons_succ]
                    rfl
                  refine pure_ (i := 7) (N := some 83) (v := ?_) (a' := ?_) #[false, true, true, true, true, false, true, true, false, false, false, false, false, false, false, false, false, false, false] rfl rfl (by kernel_rfl) (fun _ _ _ h => h) (Or.inl ⟨by rfl, ?_⟩) ?_ ?_
                  rotate_left
                  · intro w'
                    go_simp
                    with_reducible rfl
                  rotate_left
                  · simp only [putAll, Act.put, List.setIfInBounds_toArray, List.set_cons_zero, List.set_cons_succ]
                    rfl
                  refine pure_ (i := 8) (N := some 84) (v := ?_) (a' := ?_) #[false, true, true, true, true, false, true, true, true, false, false, false, false, false, false, false, false, false, false] rfl rfl (by kernel_rfl) (fun _ _ _ h => h) (Or.inl ⟨by rfl, ?_⟩) ?_ ?_
                  rotate_left
                  · intro w'
                    go_simp
                    with_reducible rfl
                  rotate_left
                  · simp only [putAll, Act.put, List.setIfInBounds_toArray, List.set_cons_zero, List.set_cons_succ]
                    rfl
                  refine take_ (i := 9) (N := some 85) (v := ?_) (a' := ?_) #[false, true, true, true, true, false, true, true, true, true, false, false, false, false, false, false, false, false, false] rfl rfl (by kernel_rfl) (fun _ _ _ h => h) (Or.inl ⟨by rfl, ?_⟩) hHeld ?_ ?_
                  rotate_left
                  · rintro w' ⟨s0, s1, s2, s3, s4, s5, _⟩
                    go_simp
                    with_reducible rfl
                  rotate_left
                  · simp only [putAll, Act.put, List.setIfInBounds_toArray, List.set_cons_zero, List.set_cons_succ]
                    rfl
                  refine pure_ (i := 12) (N := some 88) (v := ?_) (a' := ?_) #[false, true, true, true, true, false, true, true, true, true, false, false, true, false, false, false, false, false, false] rfl rfl (by kernel_rfl) (fun _ _ _ h => h) (Or.inl ⟨by rfl, ?_⟩) ?_ ?_
                  rotate_left
                  · intro w'
                    go_simp
                    with_reducible rfl
                  rotate_left
                  · simp only [putAll, Act.put, List.setIfInBounds_toArray, List.set_cons_zero, List.set_cons_succ]
                    rfl
                  refine take_ (i := 13) (N := some 89) (v := ?_) (a' := ?_) #[false, true, true, true, true, false, true, true, true, true, false, false, true, true, false, false, false, false, false] rfl rfl (by kernel_rfl) (fun _ _ _ h => h) (Or.inl ⟨by rfl, ?_⟩) hHeld ?_ ?_
                  rotate_left
                  · rintro w' ⟨s0, s1, s2, s3, s4, s5, _⟩
                    go_simp
                    with_reducible rfl
                  rotate_left
                  · simp only [putAll, Act.put, List.setIfInBounds_toArray, List.set_cons_zero, List.set_cons_succ]
                    rfl
                  refine pure_ (i := 14) (N := some 90) (v := ?_) (a' := ?_) #[false, true, true, true, true, false, true, true, true, true, false, false, true, true, true, false, false, false, false] rfl rfl (by kernel_rfl) (fun _ _ _ h => h) (Or.inl ⟨by rfl, ?_⟩) ?_ ?_
                  rotate_left
                  · intro w'
                    go_simp
                    with_reducible rfl
                  rotate_left
                  · simp only [putAll, Act.put, List.setIfInBounds_toArray, List.set_cons_zero, List.set_cons_succ]
                    rfl
                  refine pure_ (i := 15) (N := some 91) (v := ?_) (a' := ?_) #[false, true, true, true, true, false, true, true, true, true, false, false, true, true, true, true, false, false, false] rfl rfl (by kernel_rfl) (fun _ _ _ h => h) (Or.inl ⟨by rfl, ?_⟩) ?_ ?_
                  rotate_left
                  · intro w'
                    go_simp
                    with_reducible rfl
                  rotate_left
                  · simp only [putAll, Act.put, List.setIfInBounds_toArray, List.set_cons_zero, List.set_cons_succ]
                    rfl
                  refine join_ (σ := Nat × Nat × Value) 4 #[true, true, true, true, true, true, true, true, true, true, true, false, true, true, true, true, false, false, false] (fun s_ => [(76, .slice (some ⟨s_.1, 0, none⟩) 0 0), (86, .slice (some ⟨s_.2.1, 0, none⟩) 1 1), (81, s_.2.2)]) (fun (s_ : Nat × Nat × Value) w' => S8 wc (w.heap.size + 1) (.slice (some ⟨ga, 0, none⟩) k ca) (bd.add (k * 5)) (.int .i64 e.v.x.f0) (.int .i64 e.v.x.f1) (.string e.v.x.f2) (.slice e.v.A3 e.v.x.f3.length e.v.c3) (.slice e.v.A4 e.v.x.f4.length e.v.c4) w' ∧ w'.heap[s_.2.1]? = some (.cells ([.int .i64 e.v.x.f0, .int .i64 e.v.x.f1, .string e.v.x.f2, .slice e.v.A3 e.v.x.f3.length e.v.c3, .slice e.v.A4 e.v.x.f4.length e.v.c4]).toArray 26 (0, 0)) ∧ w'.ownsRow wc.heap.size 26 5 s_.2.2 (0 + q) ([] ++ ((acc.flatMap FE.enc5).take (q * 5)))) ?_ ?_
                  rotate_left
                  · intro hCont
                    refine two_ (i := 0) (j := 10) (Ni := some 76) (Nj := some 86) #[true, true, true, true, true, false, true, true, true, true, false, false, true, true, true, true, false, false, false] #[false, true, true, true, true, false, true, true, true, true, true, false, true, true, true, true, false, false, false] rfl rfl rfl rfl (by kernel_rfl) (by decide) (by decide) (fun K hK => ?_) (fun K hK => ?_)
                    · skip
                      go_simp
                      refine hK.out _ _ (S8.of HT4.out HC.out.1 HC.out.2.1 HC.out.2.2.1 HC.out.2.2.2.1 HC.out.2.2.2.2 (below_alloc hHeld.2.2.2.2.2.2 _)) (fun hHeld => ?_)
                      clear hK K
                      refine two_ (i := 5) (j := 10) (Ni := some 81) (Nj := some 86) #[true, true, true, true, true, true, true, true, true, true, false, false, true, true, true, true, false, false, false] #[true, true, true, true, true, false, true, true, true, true, true, false, true, true, true, true, false, false, false] rfl rfl rfl rfl (by kernel_rfl) (by decide) (by decide) (fun K hK => ?_) (fun K hK => ?_)
                      · skip
                        refine step_app (w0 := wc) wc.heap.size (by rfl) (.tmp 76) (.tmp 80) 24 26 (.agg #[(.int .i64 0), (.int .i64 0), (.string ⟨#[]⟩), (.slice none 0 0), (.slice none 0 0)]) 5 80 (by rfl) Try.underlying24 info26 (by rfl) (by decide) (by decide) (.slice (some ⟨wd.heap.size, 0, none⟩) 0 0) (.slice (some ⟨ga, 0, none⟩) q _) 0 q [] ((acc.flatMap FE.enc5).take (q * 5)) (by rfl) (by rfl) ?HO ?HN ?HB (by rfl) ?hl ?_
                        case HO => exact (own_empty (blk_newR _ _ rfl) (by have h_ := HWD.out.size; omega))
                        case HN => exact (news_take' hHeld.2.2.2.2.2.2 HVA2.out (one_enc5 acc) q _ HQK2.out)
                        case HB => exact hHeld.2.2.2.2.2.2
                        case hl => have := HLS.out; have := HN.out; have := HLT.out; have := HQK2.out; omega
                        intro va wa aa
                        have Aa := Aside0.mk aa
                        clear aa
                        refine hK.out _ _ (S8.of HT4.out HC.out.1 HC.out.2.1 HC.out.2.2.1 HC.out.2.2.2.1 HC.out.2.2.2.2 Aa.out.low) (fun hHeld => ?_)
                        clear hK K
                        refine norm_ (a' := ?_) ?_ ?_
                        rotate_left
                        · show Act.put _ (some 81) _ = _
                          simp only [putAll, Act.put, List.setIfInBounds_toArray, List.set_cons_zero, List.set_cons_succ]
                          rfl
                        refine one_ (i := 10) (N := some 86) #[true, true, true, true, true, true, true, true, true, true, true, false, true, true, true, true, false, false, false] rfl rfl (by kernel_rfl) (by decide) (fun K hK => ?_)
                        go_simp
                        refine hK.out _ _ (S8.of HT4.out HC.out.1 HC.out.2.1 HC.out.2.2.1 HC.out.2.2.2.1 HC.out.2.2.2.2 (below_alloc Aa.out.low _)) (fun hHeld => ?_)
                        clear hK K
                        exact norm_ (by simp only [putAll, Act.put, List.setIfInBounds_toArray, List.set_cons_zero, List.set_cons_succ]) (hCont (wd.heap.size, wa.heap.size, va) _ ⟨hHeld, blk_newR _ _ rfl, Aa.out.own.alloc _⟩)
                      · skip
                        go_simp
                        refine hK.out _ _ (S8.of HT4.out HC.out.1 HC.out.2.1 HC.out.2.2.1 HC.out.2.2.2.1 HC.out.2.2.2.2 (below_alloc hHeld.2.2.2.2.2.2 _)) (fun hHeld => ?_)
                        clear hK K
                        refine one_ (i := 5) (N := some 81) #[true, true, true, true, true, true, true, true, true, true, true, false, true, true, true, true, false, false, false] rfl rfl (by kernel_rfl) (by decide) (fun K hK => ?_)
                        refine step_app (w0 := wc) wc.heap.size (by rfl) (.tmp 76) (.tmp 80) 24 26 (.agg #[(.int .i64 0), (.int .i64 0), (.string ⟨#[]⟩), (.slice none 0 0), (.slice none 0 0)]) 5 80 (by rfl) Try.underlying24 info26 (by rfl) (by decide) (by decide) (.slice (some ⟨wd.heap.size, 0, none⟩) 0 0) (.slice (some ⟨ga, 0, none⟩) q _) 0 q [] ((acc.flatMap FE.enc5).take (q * 5)) (by rfl) (by rfl) ?HO ?HN ?HB (by rfl) ?hl ?_
                        case HO => exact (own_empty (blk_alloc (blk_newR _ _ rfl) _) (by have h_ := HWD.out.size; omega))
                        case HN => exact (news_take' hHeld.2.2.2.2.2.2 HVA2.out (one_enc5 acc) q _ HQK2.out)
                        case HB => exact hHeld.2.2.2.2.2.2
                        case hl => have := HLS.out; have := HN.out; have := HLT.out; have := HQK2.out; omega
                        intro vb wb ab
                        have Ab := Aside0.mk ab
                        clear ab
                        refine hK.out _ _ (S8.of HT4.out HC.out.1 HC.out.2.1 HC.out.2.2.1 HC.out.2.2.2.1 HC.out.2.2.2.2 Ab.out.low) (fun hHeld => ?_)
                        clear hK K
                        refine norm_ (a' := ?_) ?_ ?_
                        rotate_left
                        · show Act.put _ (some 81) _ = _
                          simp only [putAll, Act.put, List.setIfInBounds_toArray, List.set_cons_zero, List.set_cons_succ]
                          rfl
                        exact norm_ (by simp only [putAll, Act.put, List.setIfInBounds_toArray, List.set_cons_zero, List.set_cons_succ]) (hCont (wd.heap.size, wd.heap.size + 1, vb) _ ⟨hHeld, (Ab.out.grow.block _ (by simp) (by simp [Value.ownBlock])).trans (blk_newR _ _ (by simp)), Ab.out.own⟩)
                    · skip
                      go_simp
                      refine hK.out _ _ (S8.of HT4.out HC.out.1 HC.out.2.1 HC.out.2.2.1 HC.out.2.2.2.1 HC.out.2.2.2.2 (below_alloc hHeld.2.2.2.2.2.2 _)) (fun hHeld => ?_)
                      clear hK K
                      refine one_ (i := 0) (N := some 76) #[true, true, true, true, true, false, true, true, true, true, true, false, true, true, true, true, false, false, false] rfl rfl (by kernel_rfl) (by decide) (fun K hK => ?_)
                      go_simp
                      refine hK.out _ _ (S8.of HT4.out HC.out.1 HC.out.2.1 HC.out.2.2.1 HC.out.2.2.2.1 HC.out.2.2.2.2 (below_alloc hHeld.2.2.2.2.2.2 _)) (fun hHeld => ?_)
                      clear hK K
                      refine one_ (i := 5) (N := some 81) #[true, true, true, true, true, true, true, true, true, true, true, false, true, true, true, true, false, false, false] rfl rfl (by kernel_rfl) (by decide) (fun K hK => ?_)
                      refine step_app (w0 := wc) wc.heap.size (by rfl) (.tmp 76) (.tmp 80) 24 26 (.agg #[(.int .i64 0), (.int .i64 0), (.string ⟨#[]⟩), (.slice none 0 0), (.slice none 0 0)]) 5 80 (by rfl) Try.underlying24 info26 (by rfl) (by decide) (by decide) (.slice (some ⟨wd.heap.size + 1, 0, none⟩) 0 0) (.slice (some ⟨ga, 0, none⟩) q _) 0 q [] ((acc.flatMap FE.enc5).take (q * 5)) (by rfl) (by rfl) ?HO ?HN ?HB (by rfl) ?hl ?_
                      case HO => exact (own_empty (blk_newR _ _ (by simp)) (by have h_ := HWD.out.size; omega))
                      case HN => exact (news_take' hHeld.2.2.2.2.2.2 HVA2.out (one_enc5 acc) q _ HQK2.out)
                      case HB => exact hHeld.2.2.2.2.2.2
                      case hl => have := HLS.out; have := HN.out; have := HLT.out; have := HQK2.out; omega
                      intro vc wc ac
                      have Ac := Aside0.mk ac
                      clear ac
                      refine hK.out _ _ (S8.of HT4.out HC.out.1 HC.out.2.1 HC.out.2.2.1 HC.out.2.2.2.1 HC.out.2.2.2.2 Ac.out.low) (fun hHeld => ?_)
                      clear hK K
                      refine norm_ (a' := ?_) ?_ ?_
                      rotate_left
                      · show Act.put _ (some 81) _ = _
                        simp only [putAll, Act.put, List.setIfInBounds_toArray, List.set_cons_zero, List.set_cons_succ]
                        rfl
                      exact norm_ (by simp only [putAll, Act.put, List.setIfInBounds_toArray, List.set_cons_zero, List.set_cons_succ]) (hCont (wd.heap.size + 1, wd.heap.size, vc) _ ⟨hHeld, (Ac.out.grow.block _ (by simp; omega) (by simp [Value.ownBlock])).trans (blk_alloc (blk_newR _ _ rfl) _), Ac.out.own⟩)
                  rintro ⟨g58, g68, v63⟩ wj hj
                  obtain ⟨hHeld, hj1, hj2⟩ := hj
                  have HJ1 := Aside0.mk hj1
                  have HJ2 := Aside0.mk hj2
                  clear hj1 hj2
                  dsimp only at HJ1 HJ2
                  refine norm_ (a' := ?_) ?_ ?_
                  rotate_left
                  · simp only [putAll, Act.put, List.setIfInBounds_toArray, List.set_cons_zero, List.set_cons_succ]
                    rfl
                  refine one_ (i := 11) (N := some 87) #[true, true, true, true, true, true, true, true, true, true, true, true, true, true, true, true, false, false, false] rfl rfl (by kernel_rfl) (by decide) (fun K hK => ?_)
                  refine step_app (w0 := wc) wc.heap.size (by rfl) (.tmp 81) (.tmp 86) 24 26 (.agg #[(.int .i64 0), (.int .i64 0), (.string ⟨#[]⟩), (.slice none 0 0), (.slice none 0 0)]) 5 80 (by rfl) Try.underlying24 info26 (by rfl) (by decide) (by decide) v63 (.slice (some ⟨g68, 0, none⟩) 1 1) (0 + q) 1 ([] ++ ((acc.flatMap FE.enc5).take (q * 5))) [.int .i64 e.v.x.f0, .int .i64 e.v.x.f1, .string e.v.x.f2, .slice e.v.A3 e.v.x.f3.length e.v.c3, .slice e.v.A4 e.v.x.f4.length e.v.c4] (by rfl) (by rfl) ?HO ?HN ?HB (by rfl) ?hl ?_
                  case HO => exact HJ2.out
                  case HN => exact (news_blk HJ1.out rfl (FE.h15 e))
                  case HB => exact hHeld.2.2.2.2.2.2
                  case hl => have := HLS.out; have := HN.out; have := HLT.out; have := HQK2.out; omega
                  intro vd wd ad
                  have Ad := Aside0.mk ad
                  clear ad
                  refine hK.out _ _ (S8.of HT4.out HC.out.1 HC.out.2.1 HC.out.2.2.1 HC.out.2.2.2.1 HC.out.2.2.2.2 Ad.out.low) (fun hHeld => ?_)
                  clear hK K
                  refine norm_ (a' := ?_) ?_ ?_
                  rotate_left
                  · show Act.put _ (some 87) _ = _
                    simp only [putAll, Act.put, List.setIfInBounds_toArray, List.set_cons_zero, List.set_cons_succ]
                    rfl
                  refine one_ (i := 16) (N := some 92) #[true, true, true, true, true, true, true, true, true, true, true, true, true, true, true, true, true, false, false] rfl rfl (by kernel_rfl) (by decide) (fun K hK => ?_)
                  refine step_app (w0 := wc) wc.heap.size (by rfl) (.tmp 87) (.tmp 91) 24 26 (.agg #[(.int .i64 0), (.int .i64 0), (.string ⟨#[]⟩), (.slice none 0 0), (.slice none 0 0)]) 5 80 (by rfl) Try.underlying24 info26 (by rfl) (by decide) (by decide) vd (.slice (if ca = q then some ⟨ga, 0, none⟩ else some ⟨ga, (q * 5), none⟩) (k - q) (ca - q)) (0 + q + 1) (k - q) ([] ++ ((acc.flatMap FE.enc5).take (q * 5)) ++ [.int .i64 e.v.x.f0, .int .i64 e.v.x.f1, .string e.v.x.f2, .slice e.v.A3 e.v.x.f3.length e.v.c3, .slice e.v.A4 e.v.x.f4.length e.v.c4]) ((acc.flatMap FE.enc5).drop (q * 5)) (by rfl) (by rfl) ?HO ?HN ?HB (by rfl) ?hl ?_
                  case HO => exact Ad.out.own
                  case HN => exact (news_dropI hHeld.2.2.2.2.2.2 HVA2.out (one_enc5 acc) q _ _ (by omega) HQK2.out HLCX.out)
                  case HB => exact hHeld.2.2.2.2.2.2
                  case hl => have := HLS.out; have := HN.out; have := HLT.out; have := HQK2.out; omega
                  intro ve we ae
                  have Ae := Aside0.mk ae
                  clear ae
                  have he_ := Ae.out.own
                  rw [show 0 + q + 1 + (k - q) = k + 1 by have := HQK2.out; omega] at he_
                  obtain ⟨g2, cap2, rfl⟩ := ownsRow_succ he_
                  have HE := Aside0.mk he_
                  clear he_
                  refine hK.out _ _ (S8.of HT4.out HC.out.1 HC.out.2.1 HC.out.2.2.1 HC.out.2.2.2.1 HC.out.2.2.2.2 Ae.out.low) (fun hHeld => ?_)
                  clear hK K
                  refine norm_ (a' := ?_) ?_ ?_
                  rotate_left
                  · show Act.put _ (some 92) _ = _
                    simp only [putAll, Act.put, List.setIfInBounds_toArray, List.set_cons_zero, List.set_cons_succ]
                    rfl
                  refine pure_ (i := 17) (N := some 93) (v := ?_) (a' := ?_) #[true, true, true, true, true, true, true, true, true, true, true, true, true, true, true, true, true, true, false] rfl rfl (by kernel_rfl) (fun _ _ _ h => h) (Or.inl ⟨by rfl, ?_⟩) ?_ ?_
                  rotate_left
                  · intro w'
                    go_simp
                    with_reducible rfl
                  rotate_left
                  · simp only [putAll, Act.put, List.setIfInBounds_toArray, List.set_cons_zero, List.set_cons_succ]
                    rfl
                  refine last_ (i := 18) (N := none) #[true, true, true, true, true, true, true, true, true, true, true, true, true, true, true, true, true, true, true] rfl rfl (by kernel_rfl) (by decide) (fun K hK => ?_)
                  obtain ⟨hcell, hfroz⟩ := bcell Ae.out.low
                  go_simp
                  refine hK.out _ _ ?_
                  clear hK K
                  refine done_ (by kernel_rfl) ?_
                  go_wp2
                  all_goals
                    go_roundg (gk - 1)
                    case measure => have := HK.out; have := HLT.out; omega
                    case rel => exact ⟨k + 1, insF q e acc, _, _, by go_num, ⟨by have := HK.out; have := HLT.out; omega⟩, ⟨by rw [insF_len, HACC.out.1], insF_mem HACC.out.2.1 HMEM.out, by rw [HX.out, insF_p q e acc HAT.out]⟩, ⟨blk_put ((Ae.out.low.block _ hz2).trans HTB2.out) 4 _ rfl⟩, ⟨fun h => by omega⟩, ⟨by rw [← insF_l]; exact HVL2.out.kept (grownBy_store Ae.out.low _ _ _) (own_far (T := w.heap.size + 1) HVL2.out)⟩, ⟨by rw [← insF_x]; exact own_store HE.out hz2 (by omega)⟩, ⟨HB.out.trans (below_of_grown (World.grownBy.trans HGR.out (grownBy_store Ae.out.low _ _ _)) (by omega))⟩, ⟨by rw [World.size_setCell]; have := Ae.out.low.size; omega⟩⟩
      · have hltz : ¬ (k : Int) < (ls.length : Int) := by omega
        obtain rfl : k = ls.length := by have := HK.out; omega
        obtain ⟨AA, ca, hva, hac, hCA⟩ := c26_of_own HVA.out HACC.out.1 (by have := HN.out; omega) (fun e he => (HF.out.rt e (HACC.out.2.1 e he)).below HBW.out)
        have HRES := Aside0.mk (rec_some HF.out HLN.out (show refGo [] (es.map prF) = some (acc.map prF) from by rw [HACC.out.2.2, List.drop_of_length_le (by have := HLS.out; omega)]; rfl))
        have HRT := Aside0.mk (fun e he => HF.out.rt e (HACC.out.2.1 e he))
        have hla : acc.length = ls.length := HACC.out.1
        have HLA := Aside0.mk hla
        rw [HVLE.out, hva] at HTB
        have t0 := blk_cell HTB.out 0
        have t1 := blk_cell HTB.out 1
        have t2 := blk_cell HTB.out 2
        have t3 := blk_cell HTB.out 3
        have t4 := blk_cell HTB.out 4
        simp at t0 t1 t2 t3 t4
        have r0 := blk_cell HRB.out 0
        have r1 := blk_cell HRB.out 1
        have r2 := blk_cell HRB.out 2
        have r3 := blk_cell HRB.out 3
        have r4 := blk_cell HRB.out 4
        have rz := fun i => blk_frozen HRB.out i
        simp at r0 r1 r2 r3 r4
        have HV1 := Aside0.mk (HVLE.out ▸ HVL.out)
        have HV2 := Aside0.mk (hva ▸ HVA.out)
        clear HK hlt hltz hCA hla hac hva
        go_wp2
        refine bodyPost_ret (results_ct rfl _ _ w.heap.size 26 _ (0, 0) _ rfl (put5 HRB.out) Try.underlying26 rfl (by kernel_rfl)) rfl ?_
        have hbf := below5 (b0 := .int .i64 8) (b1 := .int .i64 0) (b2 := .string ⟨#[]⟩) (b3 := .slice AL ls.length cl) (b4 := .slice AA ls.length ca) HBW.out (Nat.le_refl w.heap.size)
        have ho1 := own_put5 (b0 := .int .i64 8) (b1 := .int .i64 0) (b2 := .string ⟨#[]⟩) (b3 := .slice AL ls.length cl) (b4 := .slice AA ls.length ca) HV1.out (show w.heap.size ≤ w.heap.size + 1 by omega)
        have ho2 := own_put5 (b0 := .int .i64 8) (b1 := .int .i64 0) (b2 := .string ⟨#[]⟩) (b3 := .slice AL ls.length cl) (b4 := .slice AA ls.length ca) HV2.out (show w.heap.size ≤ w.heap.size + 1 by omega)
        have hrd := rec_reads ho1 ho2 HLA.out (by have := HN.out; omega) HRT.out hbf
        rw [HRES.out]
        exact ⟨⟨_, rfl, hrd⟩, hbf⟩
  · have hl' : ((ls.length : Int) != (ar.length : Int)) = true := by rw [bne_iff_ne]; omega
    have HR := Aside0.mk (show refRecT ls ar = (z26, false) from by unfold refRecT; rw [if_neg hl])
    clear g3 g4 hl hn
    go_enter Try.func41, Try.ntmps41
    have hb0 := blk_new w (.cells #[.int .i64 0, .int .i64 0, .string ⟨#[]⟩, .slice none 0 0, .slice none 0 0] 26)
    go_wp2
    refine bodyPost_ret (results_ct rfl _ _ w.heap.size 26 _ (0, 0) _ rfl hb0 Try.underlying26 rfl (by kernel_rfl)) rfl ?_
    rw [HR.out]
    exact ⟨⟨_, rfl, RT_z _⟩, below_alloc (Below.refl _ _) _⟩
end Go.Proofs.Ytkeeknlfommieaa.PF
