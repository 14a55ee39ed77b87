/- ty.Rec: the walk. -/
import Derived.Test.YtkeeknlfommieaaD3
import Derived.Test.YtkeeknlfommieaaT3
import Derived.Test.YtkeeknlfommieaaB3
namespace Go.Proofs.Ytkeeknlfommieaa.PF
open Go.RowKit Go.Shelf Go.Sort Go.Proofs.YtkeeknlfommieaaW.PrintWords Go.Proofs.YtkeeknlfommieaaW.PrintLast Go.Proofs.YtkeeknlfommieaaW.PrintMore

theorem FE.h15 (e : FE) : ∀ v ∈ e.enc5, v.oneCell' = true := by
  intro v hv
  simp only [FE.enc5, List.mem_cons, List.not_mem_nil, or_false] at hv
  rcases hv with rfl | rfl | rfl | rfl | rfl <;> rfl
def ResTy (y : S26 × Bool) (w : World) (e : Ending) (w' : World) : Prop := (∃ v, e = .returned (.tuple #[v, .bool y.2]) ∧ RT w' v y.1) ∧ Below w.heap.size w w'
set_option maxRecDepth 100000 in
set_option maxHeartbeats 4000000 in
theorem rec_calls (hi : Nat) (hs : SortOK hi) (hi32 : hi ≤ 4294967296) (A B : Option Addr) (c d : Nat) (ls : List ByteArray) (ar : List S26) (w : World) (lc : ls.length ≤ c) (ld : ar.length ≤ d) (g3 : Kd.string.C w A ls.length ls) (g4 : k26.C w B ar.length ar) (hn : ls.length ≤ hi) :
    Calls Try.prog 40 #[.slice A ls.length c, .slice B ar.length d] w (ResTy (recT ls ar) w) := by
  by_cases hl : ls.length = ar.length
  · have hl' : ((ls.length : Int) != (ar.length : Int)) = false := by rw [bne_eq_false_iff_eq]; omega
    obtain ⟨es, hf⟩ := fields_of g3 g4 hl
    have HF := Aside0.mk hf
    have HLS := Aside0.mk hf.len.1
    have HAR := Aside0.mk hf.len.2
    have HR := Aside0.mk (show recT ls ar = recOf ((ls.zip ar).mergeSort leP) from by unfold recT; rw [if_pos hl])
    have HN := Aside0.mk hn
    have HS := Aside0.mk hs
    have HI := Aside0.mk hi32
    have hls := g3.2.1
    clear hf g3 g4 lc ld hl hn hs hi32
    go_enter Try.func40, Try.ntmps40
    go_wp2_with fail
    go_loopg [6, 20] ls.length (fun gk v i wr => ∃ k : Nat, i = .int .i64 k ∧ Aside0 (gk + k = ls.length) ∧ Aside0 (k = 0 → v = .slice none 0 0) ∧ Aside0 (wr.ownsRow (w.heap.size + 1) 89 6 v k ((es.take k).flatMap FE.enc)) ∧ Aside0 (Below (w.heap.size + 1) (w.alloc (.cells #[.int .i64 0, .int .i64 0, .string ⟨#[]⟩, .slice none 0 0, .slice none 0 0] 26)) wr))
    case atStart => exact ⟨0, rfl, ⟨rfl⟩, ⟨fun _ => rfl⟩, ⟨World.ownsRow_nil _ _ _ _⟩, ⟨Below.refl _ _⟩⟩
    case round =>
      obtain ⟨k, rfl, HK, HNIL, HO, HB⟩ := hrel
      by_cases hlt : k < ls.length
      · have hltZ : ((k : Int) < (ls.length : Int)) := by omega
        have hltZ2 : ((k : Int) < (ar.length : Int)) := by have := HLS.out; have := HAR.out; omega
        have hlt2 : k < es.length := by have := HLS.out; omega
        have hbw : Below w.heap.size w wr := (below_alloc (Below.refl _ _) _).trans (HB.out.mono (by omega))
        obtain ⟨ad, bd, eA, eB, h0, h1, h2, h3, h4, h5⟩ := HF.out.cl k hlt2
        cases eA
        cases eB
        have HT := Aside0.mk (show (es.take (k + 1)).flatMap FE.enc = (es.take k).flatMap FE.enc ++ (es[k]).enc from by rw [List.take_succ_eq_append_getElem hlt2, List.flatMap_append]; simp)
        generalize es[k] = e at *
        have q0 := pw_cell_below hbw h0
        have q1 := pw_cell_below hbw h1
        have q2 := pw_cell_below hbw h2
        have q3 := pw_cell_below hbw h3
        have q4 := pw_cell_below hbw h4
        have q5 := pw_cell_below hbw h5
        have HLT := Aside0.mk hlt
        clear h0 h1 h2 h3 h4 h5 hlt hlt2 hbw
        have hsz : w.heap.size + 1 ≤ wr.heap.size := by have h_ := HB.out.size; simpa only [World.size_alloc] using h_
        go_wp2_with ((with_reducible refine gate_builtin (b := .append) (xs := #[.tmp 25, .tmp 32]) rfl ?_); at_builtin; refine print_append_cells (w0 := (w.alloc (.cells #[.int .i64 0, .int .i64 0, .string ⟨#[]⟩, .slice none 0 0, .slice none 0 0] 26))) (w.heap.size + 1) rfl (.tmp 25) (.tmp 32) 87 89 (.agg #[(.string ⟨#[]⟩), (.int .i64 0), (.int .i64 0), (.string ⟨#[]⟩), (.slice none 0 0), (.slice none 0 0)]) 6 96 rfl Try.underlying87 info89 rfl (by decide) (by omega) _ k _ [.string e.l, .int .i64 e.v.x.f0, .int .i64 e.v.x.f1, .string e.v.x.f2, .slice e.v.A3 e.v.x.f3.length e.v.c3, .slice e.v.A4 e.v.x.f4.length e.v.c4] rfl rfl rfl (FE.h1 e) HO.out HB.out hsz (by have := HLT.out; have := HN.out; have := HI.out; omega) ?_; intro v1 w1 ho hb _ _)
        go_roundg (gk - 1)
        case measure => have := HK.out; have := HLT.out; omega
        case rel => exact ⟨k + 1, by go_num, ⟨by have := HK.out; have := HLT.out; omega⟩, ⟨fun h => by omega⟩, ⟨by rw [HT.out]; exact ho⟩, ⟨hb⟩⟩
      · have hltz : ¬ (k : Int) < (ls.length : Int) := by omega
        obtain rfl : k = ls.length := by have := HK.out; omega
        have hsz : w.heap.size + 1 ≤ wr.heap.size := by have h_ := HB.out.size; simpa only [World.size_alloc] using h_
        obtain ⟨A1, cap1, rfl, hcall⟩ := sort_any HS.out HO.out (by rw [List.length_take]; have := HLS.out; omega) HN.out HNIL.out hsz
        rw [List.take_of_length_le (by have := HLS.out; omega)] at hcall
        have HC := Aside0.mk hcall
        clear HK hltz hlt hcall HNIL HO
        go_wp2_with (go_at_call 74; refine HC.out.mono ?_; rintro e W2 ⟨rfl, es', hrow⟩; have HROW := Aside0.mk hrow; clear hrow)
        have HLE := Aside0.mk (show es'.length = ls.length from by rw [HROW.out.perm.length_eq, HLS.out])
        obtain ⟨T, hT⟩ : ∃ T, W2.heap.size = T := ⟨_, rfl⟩
        have HTS := Aside0.mk hT
        have hT0 := blk_new W2 (.cells #[.int .i64 8, .int .i64 0, .string ⟨#[]⟩, .slice none 0 0, .slice none 0 0] 26)
        rw [hT] at hT0 ⊢
        have HT0 := Aside0.mk hT0
        clear hT hT0
        go_loopg [40] ls.length (fun gk i wr => ∃ (k : Nat) (vL vA : Value), i = .int .i64 k ∧ Aside0 (gk + k = ls.length) ∧ Aside0 (wr.heap[T]? = some (.cells #[.int .i64 8, .int .i64 0, .string ⟨#[]⟩, vL, vA] 26 (0, 0))) ∧ Aside0 (wr.ownsRow (T + 1) 9 1 vL k (((es'.take k).map FE.l).map Value.string)) ∧ Aside0 (wr.ownsRow (T + 1) 26 5 vA k ((es'.take k).flatMap FE.enc5)) ∧ Aside0 (Below T W2 wr) ∧ Aside0 (T + 1 ≤ wr.heap.size))
        case atStart => exact ⟨0, _, _, rfl, ⟨rfl⟩, HT0, ⟨World.ownsRow_nil _ _ _ _⟩, ⟨World.ownsRow_nil _ _ _ _⟩, ⟨by have := below_alloc (Below.refl W2.heap.size W2) (.cells #[.int .i64 8, .int .i64 0, .string ⟨#[]⟩, .slice none 0 0, .slice none 0 0] 26); rw [HTS.out] at this; exact this⟩, ⟨by rw [World.size_alloc, HTS.out]; exact Nat.le_refl _⟩⟩
        case round =>
          obtain ⟨k, vL, vA, rfl, HK, HTB, HVL, HVA, HB2, HSZ⟩ := hrel
          by_cases hlt : k < ls.length
          · have hltZ : ((k : Int) < (ls.length : Int)) := by omega
            have hlt2 : k < es'.length := by have := HLE.out; omega
            have hbw : Below W2.heap.size W2 wr := by rw [HTS.out]; exact HB2.out
            obtain ⟨ad, eA, h0, h1, h2, h3, h4, h5⟩ := HROW.out.cl k hlt2
            cases eA
            have HT1 := Aside0.mk (show ((es'.take (k + 1)).map FE.l).map Value.string = ((es'.take k).map FE.l).map Value.string ++ [.string es'[k].l] from by rw [List.take_succ_eq_append_getElem hlt2, List.map_append, List.map_append]; rfl)
            have HT2 := Aside0.mk (show (es'.take (k + 1)).flatMap FE.enc5 = (es'.take k).flatMap FE.enc5 ++ (es'[k]).enc5 from by rw [List.take_succ_eq_append_getElem hlt2, List.flatMap_append]; simp)
            generalize es'[k] = e at *
            have q0 := pw_cell_below hbw h0
            have q1 := pw_cell_below hbw h1
            have q2 := pw_cell_below hbw h2
            have q3 := pw_cell_below hbw h3
            have q4 := pw_cell_below hbw h4
            have q5 := pw_cell_below hbw h5
            have HLT := Aside0.mk hlt
            clear h0 h1 h2 h3 h4 h5 hlt hlt2 hbw
            have hc3 := blk_cell HTB.out 3
            have hc4 := blk_cell HTB.out 4
            simp at hc3 hc4
            have hz : T < wr.heap.size := HSZ.out
            go_wp2_with (first | ((with_reducible refine gate_builtin (b := .append) (xs := #[.tmp 45, .tmp 48]) rfl ?_); at_builtin; refine print_append_cells (w0 := wr.alloc (.cells #[.string e.l, .int .i64 e.v.x.f0, .int .i64 e.v.x.f1, .string e.v.x.f2, .slice e.v.A3 e.v.x.f3.length e.v.c3, .slice e.v.A4 e.v.x.f4.length e.v.c4] 89)) (W := wr.alloc (.cells #[.string e.l, .int .i64 e.v.x.f0, .int .i64 e.v.x.f1, .string e.v.x.f2, .slice e.v.A3 e.v.x.f3.length e.v.c3, .slice e.v.A4 e.v.x.f4.length e.v.c4] 89)) (T + 1) rfl (.tmp 45) (.tmp 48) 23 9 (.string ⟨#[]⟩) 1 16 rfl Try.underlying23 info9 rfl (by decide) (by omega) vL k _ [.string e.l] rfl (by rw [World.size_alloc]; rfl) rfl (by intro u hu; simp only [List.mem_singleton] at hu; rw [hu]; rfl) (HVL.out.alloc _) (Below.refl _ _) (by have := HSZ.out; simp only [World.size_alloc]; omega) (by have := HLT.out; have := HN.out; have := HI.out; omega) ?_; intro v1 w1 ho1 hb1 hg1 hat1; obtain ⟨g1, cap1', rfl⟩ := ownsRow_succ ho1; have HO1 := Aside0.mk ho1; have HB1 := Aside0.mk hb1; have HG1 := Aside0.mk hg1; have hT1 : w1.heap[T]? = some (.cells #[.int .i64 8, .int .i64 0, .string ⟨#[]⟩, vL, vA] 26 (0, 0)) := (hb1.block T (Nat.lt_succ_self T)).trans (blk_alloc HTB.out _); have hF1 : w1.heap[wr.heap.size]? = some (.cells #[.string e.l, .int .i64 e.v.x.f0, .int .i64 e.v.x.f1, .string e.v.x.f2, .slice e.v.A3 e.v.x.f3.length e.v.c3, .slice e.v.A4 e.v.x.f4.length e.v.c4] 89 (0, 0)) := blk_grown (blk_new wr _) hg1 (fun h_ => by have h2_ := (HVL.out.lt _ h_.symm).2; omega); have HTT := Aside0.mk hT1; have HFF := Aside0.mk hF1; have c3 := blk_cell hT1 3; have c4 := blk_cell hT1 4; have f0 := blk_cell hF1 0; have f1 := blk_cell hF1 1; have f2 := blk_cell hF1 2; have f3 := blk_cell hF1 3; have f4 := blk_cell hF1 4; have f5 := blk_cell hF1 5; have fz := blk_frozen hT1 3; have hne : wr.heap.size ≠ T := Nat.ne_of_gt hz; simp at c3 c4 f0 f1 f2 f3 f4 f5; clear ho1 hb1 hg1 hat1 hT1 hF1) | ((with_reducible refine gate_builtin (b := .append) (xs := #[.tmp 52, .tmp 55]) rfl ?_); at_builtin; refine print_append_cells (w0 := w1.setCell ⟨T, 3, none⟩ (.slice (some ⟨g1, 0, none⟩) (k + 1) cap1')) (W := w1.setCell ⟨T, 3, none⟩ (.slice (some ⟨g1, 0, none⟩) (k + 1) cap1')) (T + 1) rfl (.tmp 52) (.tmp 55) 24 26 (.agg #[(.int .i64 0), (.int .i64 0), (.string ⟨#[]⟩), (.slice none 0 0), (.slice none 0 0)]) 5 80 rfl Try.underlying24 info26 rfl (by decide) (by omega) vA k _ [.int .i64 e.v.x.f0, .int .i64 e.v.x.f1, .string e.v.x.f2, .slice e.v.A3 e.v.x.f3.length e.v.c3, .slice e.v.A4 e.v.x.f4.length e.v.c4] rfl (by rw [World.size_setCell]; rfl) rfl (FE.h15 e) (((HVA.out.alloc _).kept HG1.out (row_ne HVA.out HVL.out (by decide))).kept (grownBy_set w1 T 3 _) (own_far HVA.out)) (Below.refl _ _) (by have := HSZ.out; have h_ := HB1.out.size; simp only [World.size_alloc, World.size_setCell] at h_ ⊢; omega) (by have := HLT.out; have := HN.out; have := HI.out; omega) ?_; intro v2 w2 ho2 hb2 hg2 hat2; obtain ⟨g2, cap2', rfl⟩ := ownsRow_succ ho2; have HO2 := Aside0.mk ho2; have HB3 := Aside0.mk hb2; have HG2 := Aside0.mk hg2; have hT3 : w2.heap[T]? = some (.cells #[.int .i64 8, .int .i64 0, .string ⟨#[]⟩, .slice (some ⟨g1, 0, none⟩) (k + 1) cap1', vA] 26 (0, 0)) := (hb2.block T (Nat.lt_succ_self T)).trans (blk_put HTT.out 3 _ rfl); have d4 := blk_cell hT3 4; have dz := blk_frozen hT3 4; simp at d4; clear ho2 hb2 hg2 hat2 hT3))
            go_roundg (gk - 1)
            case measure => have := HK.out; have := HLT.out; omega
            case rel =>
              have hr := round2 HB2.out HSZ.out HTB.out HVL.out HVA.out HO1.out HB1.out HG1.out HO2.out HB3.out HG2.out
              exact ⟨k + 1, _, _, by go_num, ⟨by have := HK.out; have := HLT.out; omega⟩, ⟨hr.1⟩, ⟨by rw [HT1.out]; exact hr.2.1⟩, ⟨by rw [HT2.out]; exact hr.2.2.1⟩, ⟨hr.2.2.2.1⟩, ⟨hr.2.2.2.2⟩⟩
          · have hltz : ¬ (k : Int) < (ls.length : Int) := by omega
            obtain rfl : k = ls.length := by have := HK.out; omega
            clear HK hlt hltz
            have h1 := HVL.out
            have h2 := HVA.out
            rw [List.take_of_length_le (by have := HLE.out; omega)] at h1 h2
            have hbW : Below w.heap.size w W2 := (below_alloc (Below.refl _ _) _).trans ((HB.out.mono (by omega)).trans (HROW.out.low.mono (by omega)))
            have hbr : Below w.heap.size w wr := hbW.trans (HB2.out.mono (by rw [← HTS.out]; exact hbW.size))
            obtain ⟨AL, cl, rfl, hlc, hCL⟩ := cS_of_own h1
            obtain ⟨AA, ca, rfl, hac, hCA⟩ := c26_of_own h2 HLE.out (by have := HN.out; have := HI.out; omega) (fun e he => (HF.out.rt e (HROW.out.perm.subset he)).below hbr)
            have hz : w.heap.size + 1 ≤ T := by rw [← HTS.out]; exact Nat.le_trans (by have h_ := HB.out.size; simpa only [World.size_alloc] using h_) HROW.out.low.size
            have HBO := Aside0.mk (show wr.heap[w.heap.size]? = some (.cells #[.int .i64 0, .int .i64 0, .string ⟨#[]⟩, .slice none 0 0, .slice none 0 0] 26 (0, 0)) from
              (HB2.out.block _ (by omega)).trans ((HROW.out.low.block _ (Nat.lt_succ_self _)).trans ((HB.out.block _ (Nat.lt_succ_self _)).trans (blk_new w _))))
            have HSP := Aside0.mk (recT_es HF.out.l HF.out.x HROW.out.perm HROW.out.sorted)
            have HCL := Aside0.mk hCL
            have HCA := Aside0.mk hCA
            have HBR := Aside0.mk hbr
            have HV1 := Aside0.mk h1
            have HV2 := Aside0.mk h2
            have HRT := Aside0.mk (fun e he => HF.out.rt e (HROW.out.perm.subset he))
            have hll : (es'.map FE.l).length = ls.length := by simp [HLE.out]
            have hla : (es'.map fun e => e.v.x).length = ls.length := by simp [HLE.out]
            have HLL := Aside0.mk (And.intro hll hla)
            have HRS := Aside0.mk (fun W hb => rising_calls AL cl (es'.map FE.l) W (by rw [hll]; exact Kd.C_below hCL hb))
            rw [hll] at HRS
            clear hCL hCA hbr hbW h1 h2 hll hla
            have hzw : T < wr.heap.size := HSZ.out
            have hzr : w.heap.size < wr.heap.size := by omega
            have t0 := blk_cell HTB.out 0
            have t1 := blk_cell HTB.out 1
            have t2 := blk_cell HTB.out 2
            have t3 := blk_cell HTB.out 3
            have t4 := blk_cell HTB.out 4
            simp at t0 t1 t2 t3 t4
            obtain ⟨b, hb⟩ : ∃ b, risingN (bl (es'.map FE.l)) = b := ⟨_, rfl⟩
            have HBV := Aside0.mk hb
            clear hb
            have r0 := blk_cell HBO.out 0
            have r1 := blk_cell HBO.out 1
            have r2 := blk_cell HBO.out 2
            have r3 := blk_cell HBO.out 3
            have r4 := blk_cell HBO.out 4
            have rz := fun i => blk_frozen HBO.out i
            simp at r0 r1 r2 r3 r4
            cases b with
            | true =>
              go_wp2_with (go_at_call 67; refine (HRS.out _ (Below.refl _ _)).mono ?_; rw [HBV.out]; rintro e w3 ⟨rfl, hb3⟩; obtain ⟨hcell, hfroz⟩ := bcell hb3; have HB3 := Aside0.mk hb3; have hz3 : wr.heap.size ≤ w3.heap.size := hb3.size; clear hb3)
              refine bodyPost_ret (results_ct rfl _ _ w.heap.size 26 _ (0, 0) _ rfl (put5 (blk_below HBO.out HB3.out)) Try.underlying26 rfl (by kernel_rfl)) rfl ?_
              have hbf := below5 (b0 := .int .i64 8) (b1 := .int .i64 0) (b2 := .string ⟨#[]⟩) (b3 := .slice AL ls.length cl) (b4 := .slice AA ls.length ca) (HBR.out.trans (HB3.out.mono (by omega))) (Nat.le_refl w.heap.size)
              have ho1 := own_put5 (b0 := .int .i64 8) (b1 := .int .i64 0) (b2 := .string ⟨#[]⟩) (b3 := .slice AL ls.length cl) (b4 := .slice AA ls.length ca) (HV1.out.kept (grownBy_below HB3.out) (Classical.em _)) (show w.heap.size ≤ T by omega)
              have ho2 := own_put5 (b0 := .int .i64 8) (b1 := .int .i64 0) (b2 := .string ⟨#[]⟩) (b3 := .slice AL ls.length cl) (b4 := .slice AA ls.length ca) (HV2.out.kept (grownBy_below HB3.out) (Classical.em _)) (show w.heap.size ≤ T by omega)
              have hrd := rec_reads ho1 ho2 HLE.out (by have := HN.out; have := HI.out; omega) HRT.out hbf
              rw [HSP.out, if_pos HBV.out]
              exact ⟨⟨_, rfl, hrd⟩, hbf⟩
            | false =>
              go_wp2_with (go_at_call 67; refine (HRS.out _ (Below.refl _ _)).mono ?_; rw [HBV.out]; rintro e w3 ⟨rfl, hb3⟩; obtain ⟨hcell, hfroz⟩ := bcell hb3; have HB3 := Aside0.mk hb3; have hz3 : wr.heap.size ≤ w3.heap.size := hb3.size; clear hb3)
              refine bodyPost_ret (results_ct rfl _ _ w.heap.size 26 _ (0, 0) _ rfl (put5 (blk_below HBO.out HB3.out)) Try.underlying26 rfl (by kernel_rfl)) rfl ?_
              rw [HSP.out, if_neg (by rw [HBV.out]; exact Bool.false_ne_true)]
              exact ⟨⟨_, rfl, RT_z _⟩, below5 (HBR.out.trans (HB3.out.mono (by omega))) (Nat.le_refl _)⟩
  · have hl' : ((ls.length : Int) != (ar.length : Int)) = true := by rw [bne_iff_ne]; omega
    have HR := Aside0.mk (show recT ls ar = (z26, false) from by unfold recT; rw [if_neg hl])
    clear g3 g4 lc ld hl hn hs
    go_enter Try.func40, Try.ntmps40
    have hb0 := blk_new w (.cells #[.int .i64 0, .int .i64 0, .string ⟨#[]⟩, .slice none 0 0, .slice none 0 0] 26)
    go_wp2
    refine bodyPost_ret (results_ct rfl _ _ w.heap.size 26 _ (0, 0) _ rfl hb0 Try.underlying26 rfl (by kernel_rfl)) rfl ?_
    rw [HR.out]
    exact ⟨⟨_, rfl, RT_z _⟩, below_alloc (Below.refl _ _) _⟩
end Go.Proofs.Ytkeeknlfommieaa.PF
