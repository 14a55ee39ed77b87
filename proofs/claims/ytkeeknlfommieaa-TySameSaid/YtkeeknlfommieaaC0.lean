/- The statements' own word Much: it returns, at every type. -/
import Derived.Test.YtkeeknlfommieaaB8
namespace Go.Proofs.Ytkeeknlfommieaa.PF
open Go.RowKit Go.Shelf Go.Proofs.YtkeeknlfommieaaW.PrintWords Go.Proofs.YtkeeknlfommieaaW.PrintLast Go.Proofs.YtkeeknlfommieaaW.PrintMore

def SomeInt (w : World) (e : Ending) (w' : World) : Prop := (∃ r : Int, e = .returned (.int .i64 r)) ∧ Below w.heap.size w w'
set_option maxRecDepth 100000 in
set_option maxHeartbeats 2000000 in
theorem much_calls (t : S26) : ∀ (w : World) (A3 : Option Addr) (c3 : Nat) (A4 : Option Addr) (c4 : Nat) (_ : t.f3.length ≤ c3) (_ : Kd.string.C w A3 t.f3.length t.f3) (_ : t.f4.length ≤ c4) (_ : k26.C w A4 t.f4.length t.f4),
    Calls Try.prog 24 #[.agg #[.int .i64 t.f0, .int .i64 t.f1, .string t.f2, .slice A3 t.f3.length c3, .slice A4 t.f4.length c4]] w (SomeInt w) := by
  induction t using S26.ind with
  | h k0 n nm ls ar ih =>
  intro w A3 c3 A4 c4 l3 g3 l4 g4
  dsimp only at l3 g3 l4 g4 ⊢
  have HG3 := Aside0.mk g3
  have HG4 := Aside0.mk g4
  have HIH := Aside0.mk ih
  have hl3 := g3.2.1
  have hl4 := g4.2.1
  clear ih l3 g3 l4 g4
  go_enter Try.func24, Try.ntmps24
  go_wp2_with fail
  go_loopg [3, 4] (1000 + ls.length) (fun gk v i wr => ∃ (r : Int) (k : Nat), v = .int .i64 r ∧ i = .int .i64 k ∧ Aside0 (gk + k = 1000 + ls.length ∧ k ≤ 1000) ∧ wr = w.alloc (.cells #[.int .i64 k0, .int .i64 n, .string nm, .slice A3 ls.length c3, .slice A4 ar.length c4] 26))
  case atStart => exact ⟨_, 0, rfl, rfl, ⟨by omega⟩, rfl⟩
  case round =>
    obtain ⟨r, k, rfl, rfl, HK, rfl⟩ := hrel
    by_cases hlt : k < ls.length ∧ k < 1000
    · obtain ⟨hlt, hk⟩ := hlt
      have hltZ : ((k : Int) < (ls.length : Int)) := by omega
      have hkZ : ((k : Int) < 1000) := by omega
      obtain ⟨ad, e, h0⟩ := elS (Kd.C_below HG3.out (below_alloc (Below.refl _ _) (.cells #[.int .i64 k0, .int .i64 n, .string nm, .slice A3 ls.length c3, .slice A4 ar.length c4] 26))) k hlt
      cases e
      generalize ls[k] = s at h0
      have HLT := Aside0.mk hlt
      clear hlt
      go_wp2
      go_roundg (gk - 1)
      case measure => have := HK.out; have := HLT.out; omega
      case rel => exact ⟨_, k + 1, rfl, by go_num, ⟨by have := HK.out; have := HLT.out; omega⟩, rfl⟩
    · have HD := Aside0.mk (show ∀ b : Bool, (decide ((k : Int) < (ls.length : Int)) && decide ((k : Int) < 1000)) = b → b = false from by
        rintro b rfl
        rw [Bool.and_eq_false_iff]
        simp only [decide_eq_false_iff_not]
        omega)
      by_cases h1 : (k : Int) < (ls.length : Int)
      · have h2 : ¬ (k : Int) < 1000 := by omega
        clear hlt
        go_wp2
        go_loopg [3, 5] ar.length (fun gk v i wr => ∃ (r : Int) (k : Nat), v = .int .i64 r ∧ i = .int .i64 k ∧ Aside0 (gk + k = ar.length) ∧ Aside0 (Below (w.heap.size + 1) (w.alloc (.cells #[.int .i64 k0, .int .i64 n, .string nm, .slice A3 ls.length c3, .slice A4 ar.length c4] 26)) wr))
        case atStart => exact ⟨_, 0, rfl, rfl, ⟨by omega⟩, ⟨Below.refl _ _⟩⟩
        case round =>
          clear HK
          obtain ⟨r, k, rfl, rfl, HK, HB⟩ := hrel
          have hz : w.heap.size < wr.heap.size := by have h_ := HB.out.size; simp only [World.size_alloc] at h_; omega
          obtain ⟨hcell, hfroz⟩ := bcell (W := w.alloc (.cells #[.int .i64 k0, .int .i64 n, .string nm, .slice A3 ls.length c3, .slice A4 ar.length c4] 26)) (by simpa only [World.size_alloc] using HB.out)
          have HBW := Aside0.mk ((below_alloc (Below.refl w.heap.size w) (.cells #[.int .i64 k0, .int .i64 n, .string nm, .slice A3 ls.length c3, .slice A4 ar.length c4] 26)).trans (HB.out.mono (by omega)))
          by_cases hlt : k < ar.length
          · have hltZ : ((k : Int) < (ar.length : Int)) := by omega
            by_cases hr : r < 3000
            · obtain ⟨ad, B3, d3, B4, d4, e, h0, h1, h2, h3, h4, l3, g3, l4, g4⟩ := el26 (Kd.C_below HG4.out HBW.out) k hlt
              cases e
              have HC := Aside0.mk (HIH.out ar[k] (List.getElem_mem hlt) wr B3 d3 B4 d4 l3 g3 l4 g4)
              generalize ar[k] = x at *
              have HLT := Aside0.mk hlt
              clear l3 g3 l4 g4 hlt
              go_wp2_with (go_at_call 24; refine HC.out.mono ?_; rintro e w1 ⟨⟨q, rfl⟩, hb1⟩)
              go_roundg (gk - 1)
              case measure => have := HK.out; have := HLT.out; omega
              case rel => exact ⟨_, k + 1, rfl, by go_num, ⟨by have := HK.out; have := HLT.out; omega⟩, ⟨HB.out.trans (hb1.mono (by omega))⟩⟩
            · go_wp2
              go_ret
              exact ⟨⟨_, rfl⟩, HBW.out⟩
          · have hltz : ¬ (k : Int) < (ar.length : Int) := by omega
            go_wp2
            go_ret
            exact ⟨⟨_, rfl⟩, HBW.out⟩
      · clear hlt
        go_wp2
        go_loopg [3, 5] ar.length (fun gk v i wr => ∃ (r : Int) (k : Nat), v = .int .i64 r ∧ i = .int .i64 k ∧ Aside0 (gk + k = ar.length) ∧ Aside0 (Below (w.heap.size + 1) (w.alloc (.cells #[.int .i64 k0, .int .i64 n, .string nm, .slice A3 ls.length c3, .slice A4 ar.length c4] 26)) wr))
        case atStart => exact ⟨_, 0, rfl, rfl, ⟨by omega⟩, ⟨Below.refl _ _⟩⟩
        case round =>
          clear HK
          obtain ⟨r, k, rfl, rfl, HK, HB⟩ := hrel
          have hz : w.heap.size < wr.heap.size := by have h_ := HB.out.size; simp only [World.size_alloc] at h_; omega
          obtain ⟨hcell, hfroz⟩ := bcell (W := w.alloc (.cells #[.int .i64 k0, .int .i64 n, .string nm, .slice A3 ls.length c3, .slice A4 ar.length c4] 26)) (by simpa only [World.size_alloc] using HB.out)
          have HBW := Aside0.mk ((below_alloc (Below.refl w.heap.size w) (.cells #[.int .i64 k0, .int .i64 n, .string nm, .slice A3 ls.length c3, .slice A4 ar.length c4] 26)).trans (HB.out.mono (by omega)))
          by_cases hlt : k < ar.length
          · have hltZ : ((k : Int) < (ar.length : Int)) := by omega
            by_cases hr : r < 3000
            · obtain ⟨ad, B3, d3, B4, d4, e, h0, h1, h2, h3, h4, l3, g3, l4, g4⟩ := el26 (Kd.C_below HG4.out HBW.out) k hlt
              cases e
              have HC := Aside0.mk (HIH.out ar[k] (List.getElem_mem hlt) wr B3 d3 B4 d4 l3 g3 l4 g4)
              generalize ar[k] = x at *
              have HLT := Aside0.mk hlt
              clear l3 g3 l4 g4 hlt
              go_wp2_with (go_at_call 24; refine HC.out.mono ?_; rintro e w1 ⟨⟨q, rfl⟩, hb1⟩)
              go_roundg (gk - 1)
              case measure => have := HK.out; have := HLT.out; omega
              case rel => exact ⟨_, k + 1, rfl, by go_num, ⟨by have := HK.out; have := HLT.out; omega⟩, ⟨HB.out.trans (hb1.mono (by omega))⟩⟩
            · go_wp2
              go_ret
              exact ⟨⟨_, rfl⟩, HBW.out⟩
          · have hltz : ¬ (k : Int) < (ar.length : Int) := by omega
            go_wp2
            go_ret
            exact ⟨⟨_, rfl⟩, HBW.out⟩
end Go.Proofs.Ytkeeknlfommieaa.PF
