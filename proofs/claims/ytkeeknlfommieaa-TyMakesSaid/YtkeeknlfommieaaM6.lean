/- The law TyMakes: the walk. · What the rows hand over: types, lists of types and of texts, opened into the words of the walks. · What the rows hand over: a list of texts, a list of types. · The row of TyMakes. -/
import Derived.Test.YtkeeknlfommieaaM0
import Derived.Test.YtkeeknlfommieaaM3
import Derived.Test.YtkeeknlfommieaaM4
import Derived.Test.YtkeeknlfommieaaM5
import Derived.Deep.RegionHeld3
import Derived.ChangeArms
import Derived.WalkKit
import Derived.ProofKit
import Derived.OpenShut
import Derived.ShutString
import Derived.ChangeOld
import Derived.Carry
import Derived.SizedLaws
import Derived.Test.YtkeeknlfommieaaRows
namespace Go.Proofs.Ytkeeknlfommieaa.PF
open Go.RowKit Go.Shelf Go.Proofs.YtkeeknlfommieaaW.PrintWords Go.Proofs.YtkeeknlfommieaaW.PrintLast Go.Proofs.YtkeeknlfommieaaW.PrintMore

theorem cells5 {W : World} {g : Nat} {a0 a1 a2 a3 a4 : Value} (h : W.heap[g]? = some (.cells #[a0, a1, a2, a3, a4] 26 (0, 0))) : W.cell? ⟨g, 0, none⟩ = some a0 ∧ W.cell? ⟨g, 1, none⟩ = some a1 ∧ W.cell? ⟨g, 2, none⟩ = some a2 ∧ W.cell? ⟨g, 3, none⟩ = some a3 ∧ W.cell? ⟨g, 4, none⟩ = some a4 :=
  ⟨blk_cell h 0, blk_cell h 1, blk_cell h 2, blk_cell h 3, blk_cell h 4⟩
/-- A type's box. -/
def BoxT (W : World) (g : Nat) (x : S26) (A3 : Option Addr) (c3 : Nat) (A4 : Option Addr) (c4 : Nat) : Prop := W.heap[g]? = some (.cells #[.int .i64 x.f0, .int .i64 x.f1, .string x.f2, .slice A3 x.f3.length c3, .slice A4 x.f4.length c4] 26 (0, 0))
theorem BoxT.below {W W1 : World} {g : Nat} {x : S26} {A3 : Option Addr} {c3 : Nat} {A4 : Option Addr} {c4 : Nat} (h : BoxT W g x A3 c3 A4 c4) (hb : Below W.heap.size W W1) : BoxT W1 g x A3 c3 A4 c4 := blk_below h hb
theorem BoxT.alloc {W : World} {g : Nat} {x : S26} {A3 : Option Addr} {c3 : Nat} {A4 : Option Addr} {c4 : Nat} (h : BoxT W g x A3 c3 A4 c4) (ob : Obj) : BoxT (W.alloc ob) g x A3 c3 A4 c4 := blk_alloc h _
/-- What a type's cells read as: the four facts that the contracts ask. -/
structure Rd (W : World) (x : S26) (A3 : Option Addr) (c3 : Nat) (A4 : Option Addr) (c4 : Nat) : Prop where
  l3 : x.f3.length ≤ c3
  g3 : Kd.string.C W A3 x.f3.length x.f3
  l4 : x.f4.length ≤ c4
  g4 : k26.C W A4 x.f4.length x.f4
theorem Rd.below {W W1 : World} {x : S26} {A3 : Option Addr} {c3 : Nat} {A4 : Option Addr} {c4 : Nat} (h : Rd W x A3 c3 A4 c4) (hb : Below W.heap.size W W1) : Rd W1 x A3 c3 A4 c4 := ⟨h.l3, Kd.C_below h.g3 hb, h.l4, Kd.C_below h.g4 hb⟩
theorem Rd.of {W : World} {v : Value} {x : S26} (h : RT W v x) : ∃ A3 c3 A4 c4, v = .agg #[.int .i64 x.f0, .int .i64 x.f1, .string x.f2, .slice A3 x.f3.length c3, .slice A4 x.f4.length c4] ∧ Rd W x A3 c3 A4 c4 := by
  obtain ⟨A3, c3, A4, c4, e, l3, g3, l4, g4⟩ := h
  exact ⟨A3, c3, A4, c4, e, l3, g3, l4, g4⟩
/-- A call that hands back a type and whether. -/
theorem ResTy.open_ {y : S26 × Bool} {w : World} {e : Ending} {w' : World} (h : ResTy y w e w') : ∃ A3 c3 A4 c4, e = .returned (.tuple #[.agg #[.int .i64 y.1.f0, .int .i64 y.1.f1, .string y.1.f2, .slice A3 y.1.f3.length c3, .slice A4 y.1.f4.length c4], .bool y.2]) ∧ Rd w' y.1 A3 c3 A4 c4 ∧ Below w.heap.size w w' := by
  obtain ⟨⟨v, rfl, hr⟩, hb⟩ := h
  obtain ⟨A3, c3, A4, c4, rfl, hr2⟩ := Rd.of hr
  exact ⟨A3, c3, A4, c4, rfl, hr2, hb⟩
theorem rsame_true {W : World} {x : S26} {A3 : Option Addr} {c3 : Nat} {A4 : Option Addr} {c4 : Nat} {B3 : Option Addr} {d3 : Nat} {B4 : Option Addr} {d4 : Nat} (h : Rd W x A3 c3 A4 c4) (k : Rd W x B3 d3 B4 d4) :
    Calls Try.prog 38 #[.agg #[.int .i64 x.f0, .int .i64 x.f1, .string x.f2, .slice A3 x.f3.length c3, .slice A4 x.f4.length c4], .agg #[.int .i64 x.f0, .int .i64 x.f1, .string x.f2, .slice B3 x.f3.length d3, .slice B4 x.f4.length d4]] W fun e w' => e = .returned (.bool true) ∧ Below W.heap.size W w' := by
  have := rsame_calls x x W A3 c3 A4 c4 B3 d3 B4 d4 h.l3 h.g3 h.l4 h.g4 k.l3 k.g3 k.l4 k.g4
  rw [eqB_self] at this
  exact this
set_option maxRecDepth 100000 in
theorem rsame_fun {W : World} {a b : S26} {A3 : Option Addr} {c3 : Nat} {A4 : Option Addr} {c4 : Nat} {B3 : Option Addr} {d3 : Nat} {B4 : Option Addr} {d4 : Nat} (h : Rd W (funT a b) A3 c3 A4 c4) (k : Rd W (funT a b) B3 d3 B4 d4) :
    Calls Try.prog 38 #[.agg #[.int .i64 7, .int .i64 0, .string ⟨#[]⟩, .slice A3 0 c3, .slice A4 2 c4], .agg #[.int .i64 7, .int .i64 0, .string ⟨#[]⟩, .slice B3 0 d3, .slice B4 2 d4]] W fun e w' => e = .returned (.bool true) ∧ Below W.heap.size W w' := by
  have := rsame_true h k
  rw [show (funT a b).f0 = 7 from rfl, show (funT a b).f1 = 0 from rfl, show (funT a b).f2 = ⟨#[]⟩ from rfl, show (funT a b).f3.length = 0 from rfl, show (funT a b).f4.length = 2 from rfl] at this
  exact this
theorem fun_rd {W : World} {a b : S26} {A3 : Option Addr} {c3 : Nat} {A4 : Option Addr} {c4 : Nat} {B3 : Option Addr} {d3 : Nat} {B4 : Option Addr} {d4 : Nat} (h : Rd W a A3 c3 A4 c4) (k : Rd W b B3 d3 B4 d4) :
    Calls Try.prog 44 #[.agg #[.int .i64 a.f0, .int .i64 a.f1, .string a.f2, .slice A3 a.f3.length c3, .slice A4 a.f4.length c4], .agg #[.int .i64 b.f0, .int .i64 b.f1, .string b.f2, .slice B3 b.f3.length d3, .slice B4 b.f4.length d4]] W fun e w' => (∃ X3 x3 X4 x4, e = .returned (.agg #[.int .i64 7, .int .i64 0, .string ⟨#[]⟩, .slice X3 0 x3, .slice X4 2 x4]) ∧ Aside0 (Rd w' (funT a b) X3 x3 X4 x4)) ∧ Below W.heap.size W w' := by
  refine (fun_calls a b W A3 c3 A4 c4 B3 d3 B4 d4 h.l3 h.g3 h.l4 h.g4 k.l3 k.g3 k.l4 k.g4).mono ?_
  rintro e w' ⟨⟨v, rfl, hr⟩, hb⟩
  obtain ⟨X3, x3, X4, x4, rfl, hr2⟩ := Rd.of hr
  exact ⟨⟨X3, x3, X4, x4, rfl, ⟨hr2⟩⟩, hb⟩
theorem rfun_rd {W : World} {a b : S26} {A3 : Option Addr} {c3 : Nat} {A4 : Option Addr} {c4 : Nat} {B3 : Option Addr} {d3 : Nat} {B4 : Option Addr} {d4 : Nat} (h : Rd W a A3 c3 A4 c4) (k : Rd W b B3 d3 B4 d4) :
    Calls Try.prog 45 #[.agg #[.int .i64 a.f0, .int .i64 a.f1, .string a.f2, .slice A3 a.f3.length c3, .slice A4 a.f4.length c4], .agg #[.int .i64 b.f0, .int .i64 b.f1, .string b.f2, .slice B3 b.f3.length d3, .slice B4 b.f4.length d4]] W fun e w' => (∃ X3 x3 X4 x4, e = .returned (.agg #[.int .i64 7, .int .i64 0, .string ⟨#[]⟩, .slice X3 0 x3, .slice X4 2 x4]) ∧ Aside0 (Rd w' (funT a b) X3 x3 X4 x4)) ∧ Below W.heap.size W w' := by
  refine (rfun_calls a b W A3 c3 A4 c4 B3 d3 B4 d4 h.l3 h.g3 h.l4 h.g4 k.l3 k.g3 k.l4 k.g4).mono ?_
  rintro e w' ⟨⟨v, rfl, hr⟩, hb⟩
  obtain ⟨X3, x3, X4, x4, rfl, hr2⟩ := Rd.of hr
  exact ⟨⟨X3, x3, X4, x4, rfl, ⟨hr2⟩⟩, hb⟩
set_option maxRecDepth 100000 in
set_option maxHeartbeats 4000000 in
theorem tymakes_calls (ls : List ByteArray) (ar : List S26) (t : S26) (s : ByteArray) (w : World) (A : Option Addr) (c : Nat) (B : Option Addr) (d : Nat) (T3 : Option Addr) (c3 : Nat) (T4 : Option Addr) (c4 : Nat) (lc : ls.length ≤ c) (g3 : Kd.string.C w A ls.length ls) (ld : ar.length ≤ d) (g4 : k26.C w B ar.length ar) (ht : Rd w t T3 c3 T4 c4) :
    Calls Try.prog 8 #[.slice A ls.length c, .slice B ar.length d, .agg #[.int .i64 t.f0, .int .i64 t.f1, .string t.f2, .slice T3 t.f3.length c3, .slice T4 t.f4.length c4], .string s] w fun e w' => e = .returned (.bool true) ∧ Below w.heap.size w w' := by
  have HFEW := Aside0.mk (fun (W : World) (hb : Below w.heap.size w W) => few_calls A B c d ls ar W (Kd.C_below g3 hb) (Kd.C_below g4 hb))
  have HREC := Aside0.mk (fun (h60 : ls.length ≤ 60) (W : World) (hb : Below w.heap.size w W) => rec_calls 60 sort_60 (by decide) A B c d ls ar W lc ld (Kd.C_below g3 hb) (Kd.C_below g4 hb) h60)
  have HRREC := Aside0.mk (fun (h60 : ls.length ≤ 60) (W : World) (hb : Below w.heap.size w W) => rrec_calls A B c d ls ar W (Kd.C_below g3 hb) (Kd.C_below g4 hb) (Nat.le_trans h60 (by decide)))
  rw [refRec_eq] at HRREC
  have HRT := Aside0.mk ht
  clear lc ld g3 g4 ht
  obtain ⟨⟨r, ok⟩, hR⟩ : ∃ y, recT ls ar = y := ⟨_, rfl⟩
  obtain ⟨⟨f, is⟩, hF⟩ : ∃ y, fieldT t s = y := ⟨_, rfl⟩
  rw [hR] at HREC HRREC
  have HFD := Aside0.mk (fun (W : World) (hb : Below w.heap.size w W) => field_calls t s W T3 c3 T4 c4 HRT.out.l3 (Kd.C_below HRT.out.g3 hb) (Kd.C_below HRT.out.g4 hb))
  have HRFD := Aside0.mk (fun (W : World) (hb : Below w.heap.size w W) => rfield_calls t s W T3 c3 T4 c4 HRT.out.l3 (Kd.C_below HRT.out.g3 hb) (Kd.C_below HRT.out.g4 hb))
  rw [hF] at HFD HRFD
  clear hR hF
  have HM := Aside0.mk (fun (W : World) (hb : Below w.heap.size w W) => much_calls t W T3 c3 T4 c4 HRT.out.l3 (Kd.C_below HRT.out.g3 hb) HRT.out.l4 (Kd.C_below HRT.out.g4 hb))
  obtain ⟨gt, hgt⟩ : ∃ g, g = w.heap.size := ⟨_, rfl⟩
  have HGT := Aside0.mk hgt
  have HB0 := Aside0.mk (below_alloc (Below.refl w.heap.size w) (.cells #[.int .i64 t.f0, .int .i64 t.f1, .string t.f2, .slice T3 t.f3.length c3, .slice T4 t.f4.length c4] 26))
  have HBT0 := Aside0.mk (show BoxT (w.alloc (.cells #[.int .i64 t.f0, .int .i64 t.f1, .string t.f2, .slice T3 t.f3.length c3, .slice T4 t.f4.length c4] 26)) w.heap.size t T3 c3 T4 c4 from blk_new _ _)
  clear hgt
  go_enter Try.func8, Try.ntmps8
  go_wp2_with (fail)
  refine (HFEW.out _ HB0.out).mono ?_
  rintro e w1 ⟨⟨b, rfl, hb60⟩, hb1⟩
  have HB60 := Aside0.mk hb60
  have HB1 := Aside0.mk (HB0.out.trans (hb1.mono (by simp)))
  have HBT1 := Aside0.mk (HBT0.out.below hb1)
  clear hb1 hb60
  cases b with
  | false =>
    go_wp2_with (go_at_call 25; refine (awake_calls _).mono ?_; rintro e w2 ⟨rfl, hb2⟩)
    go_ret
    exact ⟨rfl, HB1.out.trans (hb2.mono HB1.out.size)⟩
  | true =>
    have H60 := Aside0.mk (HB60.out rfl).1
    obtain ⟨k0, k1, k2, k3, k4⟩ := cells5 HBT1.out
    go_wp2_with (fail)
    refine (HM.out _ HB1.out).mono ?_
    rintro e w2 ⟨⟨q, rfl⟩, hb2⟩
    have HB2 := Aside0.mk (HB1.out.trans (hb2.mono HB1.out.size))
    have HBT2 := Aside0.mk (HBT1.out.below hb2)
    clear hb2 k0 k1 k2 k3 k4
    rcases Int.lt_or_le 500 q with hq | hq
    · have hq' : q > 500 := hq
      go_wp2_with (go_at_call 25; refine (awake_calls _).mono ?_; rintro e w3 ⟨rfl, hb3⟩)
      go_ret
      exact ⟨rfl, HB2.out.trans (hb3.mono HB2.out.size)⟩
    · have hq' : ¬ q > 500 := by omega
      go_wp2_with (fail)
      refine (HREC.out H60.out _ HB2.out).mono ?_
      intro e w3 h3
      obtain ⟨A3, a3, A4, a4, rfl, hra, hb3⟩ := h3.open_
      dsimp only at hra
      have HB3 := Aside0.mk (HB2.out.trans (hb3.mono HB2.out.size))
      have HBT3 := Aside0.mk (HBT2.out.below hb3)
      have HRA := Aside0.mk hra
      clear h3 hb3 hra hq hq'
      go_wp2_with (fail)
      have HA3 := Aside0.mk (below_alloc (Below.refl w3.heap.size w3) (.cells #[.int .i64 r.f0, .int .i64 r.f1, .string r.f2, .slice A3 r.f3.length a3, .slice A4 r.f4.length a4] 26))
      have HBA3 := Aside0.mk (show BoxT (w3.alloc (.cells #[.int .i64 r.f0, .int .i64 r.f1, .string r.f2, .slice A3 r.f3.length a3, .slice A4 r.f4.length a4] 26)) w3.heap.size r A3 a3 A4 a4 from blk_new _ _)
      refine (HRREC.out H60.out _ (HB3.out.trans (HA3.out.mono HB3.out.size))).mono ?_
      intro e w4 h4
      obtain ⟨B3, b3, B4, b4, rfl, hrb, hb4⟩ := h4.open_
      dsimp only at hrb
      have HB4 := Aside0.mk ((HB3.out.trans (HA3.out.mono HB3.out.size)).trans (hb4.mono (Nat.le_trans HB3.out.size HA3.out.size)))
      have HBT4 := Aside0.mk ((HBT3.out.below HA3.out).below hb4)
      have HBA4 := Aside0.mk (HBA3.out.below hb4)
      have HRA4 := Aside0.mk ((HRA.out.below HA3.out).below hb4)
      have HRB := Aside0.mk hrb
      have hz4 : w.heap.size < w4.heap.size := blk_lt HBT4.out
      obtain ⟨k0, k1, k2, k3, k4⟩ := cells5 HBT4.out
      clear h4 hb4 hrb
      go_wp2_with (fail)
      have HA4 := Aside0.mk (below_alloc (Below.refl w4.heap.size w4) (.cells #[.int .i64 r.f0, .int .i64 r.f1, .string r.f2, .slice B3 r.f3.length b3, .slice B4 r.f4.length b4] 26))
      have HBB4 := Aside0.mk (show BoxT (w4.alloc (.cells #[.int .i64 r.f0, .int .i64 r.f1, .string r.f2, .slice B3 r.f3.length b3, .slice B4 r.f4.length b4] 26)) w4.heap.size r B3 b3 B4 b4 from blk_new _ _)
      refine (HFD.out _ (HB4.out.trans (HA4.out.mono HB4.out.size))).mono ?_
      intro e w5 h5
      obtain ⟨C3, e3, C4, e4, rfl, hrc, hb5⟩ := ResTy.open_ (y := (f, is)) h5
      dsimp only at hrc
      have HB5 := Aside0.mk ((HB4.out.trans (HA4.out.mono HB4.out.size)).trans (hb5.mono (Nat.le_trans HB4.out.size HA4.out.size)))
      have HBT5 := Aside0.mk ((HBT4.out.below HA4.out).below hb5)
      have HBA5 := Aside0.mk ((HBA4.out.below HA4.out).below hb5)
      have HBB5 := Aside0.mk (HBB4.out.below hb5)
      have HRA5 := Aside0.mk ((HRA4.out.below HA4.out).below hb5)
      have HRB5 := Aside0.mk ((HRB.out.below HA4.out).below hb5)
      have HRC := Aside0.mk hrc
      have hz5 : w.heap.size < w5.heap.size := blk_lt HBT5.out
      clear h5 hb5 hrc k0 k1 k2 k3 k4
      obtain ⟨k0, k1, k2, k3, k4⟩ := cells5 HBT5.out
      go_wp2_with (fail)
      have HA5 := Aside0.mk (below_alloc (Below.refl w5.heap.size w5) (.cells #[.int .i64 f.f0, .int .i64 f.f1, .string f.f2, .slice C3 f.f3.length e3, .slice C4 f.f4.length e4] 26))
      have HBC5 := Aside0.mk (show BoxT (w5.alloc (.cells #[.int .i64 f.f0, .int .i64 f.f1, .string f.f2, .slice C3 f.f3.length e3, .slice C4 f.f4.length e4] 26)) w5.heap.size f C3 e3 C4 e4 from blk_new _ _)
      refine (HRFD.out _ (HB5.out.trans (HA5.out.mono HB5.out.size))).mono ?_
      intro e w6 h6
      obtain ⟨D3, o3, D4, o4, rfl, hrd, hb6⟩ := ResTy.open_ (y := (f, is)) h6
      dsimp only at hrd
      have HB6 := Aside0.mk ((HB5.out.trans (HA5.out.mono HB5.out.size)).trans (hb6.mono (Nat.le_trans HB5.out.size HA5.out.size)))
      have HBT6 := Aside0.mk ((HBT5.out.below HA5.out).below hb6)
      have HBA6 := Aside0.mk ((HBA5.out.below HA5.out).below hb6)
      have HBB6 := Aside0.mk ((HBB5.out.below HA5.out).below hb6)
      have HBC6 := Aside0.mk (HBC5.out.below hb6)
      have HRA6 := Aside0.mk ((HRA5.out.below HA5.out).below hb6)
      have HRB6 := Aside0.mk ((HRB5.out.below HA5.out).below hb6)
      have HRC6 := Aside0.mk ((HRC.out.below HA5.out).below hb6)
      have HRD := Aside0.mk hrd
      clear h6 hb6 hrd k0 k1 k2 k3 k4
      go_wp2_with (fail)
      have HA6 := Aside0.mk (below_alloc (Below.refl w6.heap.size w6) (.cells #[.int .i64 f.f0, .int .i64 f.f1, .string f.f2, .slice D3 f.f3.length o3, .slice D4 f.f4.length o4] 26))
      have HBD7 := Aside0.mk (show BoxT (w6.alloc (.cells #[.int .i64 f.f0, .int .i64 f.f1, .string f.f2, .slice D3 f.f3.length o3, .slice D4 f.f4.length o4] 26)) w6.heap.size f D3 o3 D4 o4 from blk_new _ _)
      have HBT7 := Aside0.mk (HBT6.out.below HA6.out)
      have HBA7 := Aside0.mk (HBA6.out.below HA6.out)
      have HBB7 := Aside0.mk (HBB6.out.below HA6.out)
      have HBC7 := Aside0.mk (HBC6.out.below HA6.out)
      have HRA7 := Aside0.mk (HRA6.out.below HA6.out)
      have HRB7 := Aside0.mk (HRB6.out.below HA6.out)
      have HRC7 := Aside0.mk (HRC6.out.below HA6.out)
      have HRD7 := Aside0.mk (HRD.out.below HA6.out)
      have HB7 := Aside0.mk (HB6.out.trans (HA6.out.mono HB6.out.size))
      have HRT7 := Aside0.mk (HRT.out.below HB7.out)
      clear HBT0 HBT1 HBT2 HBT3 HBT4 HBT5 HBT6 HBA3 HBA4 HBA5 HBA6 HBB4 HBB5 HBB6 HBC5 HBC6 HRA HRA4 HRA5 HRA6 HRB HRB5 HRB6 HRC HRC6 HRD HA3 HA4 HA5 HA6 HB6 HB5 HB4 HB3 HB2 HB1 HB0 HFEW HREC HRREC HFD HRFD HM
      generalize w6.alloc (.cells #[.int .i64 f.f0, .int .i64 f.f1, .string f.f2, .slice D3 f.f3.length o3, .slice D4 f.f4.length o4] 26) = W7 at *
      generalize w3.heap.size = ga at *
      generalize w4.heap.size = gb at *
      generalize w5.heap.size = gc at *
      generalize w6.heap.size = gd at *
      have HSAB := Aside0.mk (fun (W : World) (hb : Below W7.heap.size W7 W) => rsame_true (HRA7.out.below hb) (HRB7.out.below hb))
      have HSCD := Aside0.mk (fun (W : World) (hb : Below W7.heap.size W7 W) => rsame_true (HRC7.out.below hb) (HRD7.out.below hb))
      have HFU := Aside0.mk (fun (W : World) (hb : Below W7.heap.size W7 W) => fun_rd (HRT7.out.below hb) (HRA7.out.below hb))
      have HRF := Aside0.mk (fun (W : World) (hb : Below W7.heap.size W7 W) => rfun_rd (HRT7.out.below hb) (HRA7.out.below hb))
      have HSof := Aside0.mk (show ∀ W', Below W7.heap.size W7 W' → (W'.cell? ⟨w.heap.size, 0, none⟩ = some (.int .i64 t.f0) ∧ W'.cell? ⟨w.heap.size, 1, none⟩ = some (.int .i64 t.f1) ∧ W'.cell? ⟨w.heap.size, 2, none⟩ = some (.string t.f2) ∧ W'.cell? ⟨w.heap.size, 3, none⟩ = some (.slice T3 t.f3.length c3) ∧ W'.cell? ⟨w.heap.size, 4, none⟩ = some (.slice T4 t.f4.length c4) ∧ W'.cell? ⟨ga, 0, none⟩ = some (.int .i64 r.f0) ∧ W'.cell? ⟨ga, 1, none⟩ = some (.int .i64 r.f1) ∧ W'.cell? ⟨ga, 2, none⟩ = some (.string r.f2) ∧ W'.cell? ⟨ga, 3, none⟩ = some (.slice A3 r.f3.length a3) ∧ W'.cell? ⟨ga, 4, none⟩ = some (.slice A4 r.f4.length a4) ∧ W'.cell? ⟨gb, 0, none⟩ = some (.int .i64 r.f0) ∧ W'.cell? ⟨gb, 1, none⟩ = some (.int .i64 r.f1) ∧ W'.cell? ⟨gb, 2, none⟩ = some (.string r.f2) ∧ W'.cell? ⟨gb, 3, none⟩ = some (.slice B3 r.f3.length b3) ∧ W'.cell? ⟨gb, 4, none⟩ = some (.slice B4 r.f4.length b4) ∧ W'.cell? ⟨gc, 0, none⟩ = some (.int .i64 f.f0) ∧ W'.cell? ⟨gc, 1, none⟩ = some (.int .i64 f.f1) ∧ W'.cell? ⟨gc, 2, none⟩ = some (.string f.f2) ∧ W'.cell? ⟨gc, 3, none⟩ = some (.slice C3 f.f3.length e3) ∧ W'.cell? ⟨gc, 4, none⟩ = some (.slice C4 f.f4.length e4) ∧ W'.cell? ⟨gd, 0, none⟩ = some (.int .i64 f.f0) ∧ W'.cell? ⟨gd, 1, none⟩ = some (.int .i64 f.f1) ∧ W'.cell? ⟨gd, 2, none⟩ = some (.string f.f2) ∧ W'.cell? ⟨gd, 3, none⟩ = some (.slice D3 f.f3.length o3) ∧ W'.cell? ⟨gd, 4, none⟩ = some (.slice D4 f.f4.length o4) ∧ Below W7.heap.size W7 W') from fun W' hb => by
        obtain ⟨a0, a1, a2, a3, a4⟩ := cells5 (HBT7.out.below hb)
        obtain ⟨b0, b1, b2, b3, b4⟩ := cells5 (HBA7.out.below hb)
        obtain ⟨c0, c1, c2, c3, c4⟩ := cells5 (HBB7.out.below hb)
        obtain ⟨d0, d1, d2, d3, d4⟩ := cells5 (HBC7.out.below hb)
        obtain ⟨e0, e1, e2, e3, e4⟩ := cells5 (HBD7.out.below hb)
        exact ⟨a0, a1, a2, a3, a4, b0, b1, b2, b3, b4, c0, c1, c2, c3, c4, d0, d1, d2, d3, d4, e0, e1, e2, e3, e4, hb⟩)
      have HLOW := Aside0.mk (below_drew (Below.refl W7.heap.size W7))
      go_region_held3 (fun W' => W'.cell? ⟨w.heap.size, 0, none⟩ = some (.int .i64 t.f0) ∧ W'.cell? ⟨w.heap.size, 1, none⟩ = some (.int .i64 t.f1) ∧ W'.cell? ⟨w.heap.size, 2, none⟩ = some (.string t.f2) ∧ W'.cell? ⟨w.heap.size, 3, none⟩ = some (.slice T3 t.f3.length c3) ∧ W'.cell? ⟨w.heap.size, 4, none⟩ = some (.slice T4 t.f4.length c4) ∧ W'.cell? ⟨ga, 0, none⟩ = some (.int .i64 r.f0) ∧ W'.cell? ⟨ga, 1, none⟩ = some (.int .i64 r.f1) ∧ W'.cell? ⟨ga, 2, none⟩ = some (.string r.f2) ∧ W'.cell? ⟨ga, 3, none⟩ = some (.slice A3 r.f3.length a3) ∧ W'.cell? ⟨ga, 4, none⟩ = some (.slice A4 r.f4.length a4) ∧ W'.cell? ⟨gb, 0, none⟩ = some (.int .i64 r.f0) ∧ W'.cell? ⟨gb, 1, none⟩ = some (.int .i64 r.f1) ∧ W'.cell? ⟨gb, 2, none⟩ = some (.string r.f2) ∧ W'.cell? ⟨gb, 3, none⟩ = some (.slice B3 r.f3.length b3) ∧ W'.cell? ⟨gb, 4, none⟩ = some (.slice B4 r.f4.length b4) ∧ W'.cell? ⟨gc, 0, none⟩ = some (.int .i64 f.f0) ∧ W'.cell? ⟨gc, 1, none⟩ = some (.int .i64 f.f1) ∧ W'.cell? ⟨gc, 2, none⟩ = some (.string f.f2) ∧ W'.cell? ⟨gc, 3, none⟩ = some (.slice C3 f.f3.length e3) ∧ W'.cell? ⟨gc, 4, none⟩ = some (.slice C4 f.f4.length e4) ∧ W'.cell? ⟨gd, 0, none⟩ = some (.int .i64 f.f0) ∧ W'.cell? ⟨gd, 1, none⟩ = some (.int .i64 f.f1) ∧ W'.cell? ⟨gd, 2, none⟩ = some (.string f.f2) ∧ W'.cell? ⟨gd, 3, none⟩ = some (.slice D3 f.f3.length o3) ∧ W'.cell? ⟨gd, 4, none⟩ = some (.slice D4 f.f4.length o4) ∧ Below W7.heap.size W7 W') (first | (with_reducible exact HSof.out _ HLOW.out) | fail) (first | (go_at_call 38; with_reducible refine (HSAB.out _ HLOW.out).mono ?_; rintro e wa ⟨rfl, hba⟩; have HLN := Aside0.mk (HLOW.out.trans (hba.mono HLOW.out.size)); clear HLOW; have HLOW := HLN; clear HLN; clear hba) | (go_at_call 38; with_reducible refine (HSCD.out _ HLOW.out).mono ?_; rintro e wa ⟨rfl, hba⟩; have HLN := Aside0.mk (HLOW.out.trans (hba.mono HLOW.out.size)); clear HLOW; have HLOW := HLN; clear HLN; clear hba) | (go_at_call 44; with_reducible refine (HFU.out _ HLOW.out).mono ?_; rintro e wa ⟨⟨X3, x3, X4, x4, rfl, HRX⟩, hba⟩; have HLN := Aside0.mk (HLOW.out.trans (hba.mono HLOW.out.size)); clear HLOW; have HLOW := HLN; clear HLN; clear hba) | (go_at_call 45; with_reducible refine (HRF.out _ HLOW.out).mono ?_; rintro e wb ⟨⟨Y3, y3, Y4, y4, rfl, HRY⟩, hba⟩; have HRX2 := Aside0.mk (HRX.out.below hba); clear HRX; have HRX := HRX2; clear HRX2; have HLN := Aside0.mk (HLOW.out.trans (hba.mono HLOW.out.size)); clear HLOW; have HLOW := HLN; clear HLN; clear hba) | (go_at_call 38; with_reducible refine (rsame_fun HRX.out HRY.out).mono ?_; rintro e wa ⟨rfl, hba⟩; have HLN := Aside0.mk (HLOW.out.trans (hba.mono HLOW.out.size)); clear HLOW; have HLOW := HLN; clear HLN; clear hba) | (go_at_call 25; with_reducible refine (awake_calls _).mono ?_; rintro e wa ⟨rfl, hba⟩; have HLN := Aside0.mk (HLOW.out.trans (hba.mono HLOW.out.size)); clear HLOW; have HLOW := HLN; clear HLN; clear hba) | fail)
      all_goals
        go_wp2
        go_ret
        exact ⟨rfl, HB7.out.trans (HLOW.out.mono HB7.out.size)⟩
end Go.Proofs.Ytkeeknlfommieaa.PF
namespace Go.Proofs.Ytkeeknlfommieaa.PF
open Go.ChangeShapes Go.WideShapes Go.ChangeAt
open Go.RowKit Go.Proofs.YtkeeknlfommieaaW.PrintWords Go.Proofs.YtkeeknlfommieaaW.PrintLast Go.Proofs.YtkeeknlfommieaaW.PrintMore

theorem c_of {α : Type} (d : Kd α) {W : World} {ad : Addr} {n : Nat} (hn : n ≤ 9223372036854775807) (h : ∀ i, i < n → ∃ p cs, cs.length = d.sz ∧ d.K W p cs ∧ ∀ j u, cs[j]? = some u → W.cell? (ad.add (i * d.sz + j)) = some u) :
    ∃ xs : List α, xs.length = n ∧ d.C W (some ad) n xs := by
  have hf : ∀ i : Fin n, ∃ p cs, cs.length = d.sz ∧ d.K W p cs ∧ ∀ j u, cs[j]? = some u → W.cell? (ad.add (i.val * d.sz + j)) = some u := fun i => h i.val i.isLt
  have hf2 := fun i => Classical.choose_spec (hf i)
  obtain ⟨f, hff⟩ : ∃ f : Fin n → α, ∀ i, f i = Classical.choose (hf i) := ⟨_, fun _ => rfl⟩
  simp only [← hff] at hf2
  refine ⟨List.ofFn f, by simp, by simp, hn, fun _ => ⟨ad, rfl, fun j p hj => ?_⟩⟩
  obtain ⟨hjl, hp⟩ := List.getElem?_eq_some_iff.1 hj
  have hjl' : j < n := by simpa using hjl
  obtain ⟨cs, h1, h2, h3⟩ := hf2 ⟨j, hjl'⟩
  simp at hp
  subst hp
  exact ⟨cs, h1, h2, h3⟩

variable {H : Type} {enc : TypeId × Value → H}
theorem openS {W : World} : ∀ {fuel : Nat} {cs : List Value} {x : DataW H × List MemPlace}, DataW.trod enc Try.prog W 0 (fun _ => true) true fuel 23 cs = some x →
    ∃ A c ls, cs = [.slice A ls.length c] ∧ ls.length ≤ c ∧ Kd.string.C W A ls.length ls := by
  intro fuel cs x h
  rcases DataW.trod_slice Try.underlying23 h with ⟨rfl, _⟩ | ⟨a, len, cap, elems, rest, n, _, rfl, _, _, hlc, hcap, hel, hget, _⟩
  · exact ⟨none, 0, [], rfl, Nat.le_refl _, Kd.C_nil _ _⟩
  · obtain ⟨xs, hxl, hC⟩ := c_of Kd.string (W := W) (ad := a) (n := len) (by simp only [maxLen] at hcap; omega) (by
      intro i hi
      have hg := hget i hi
      rw [List.getElem?_eq_getElem (by omega)] at hg
      obtain ⟨cs, hcs, ht⟩ := Option.bind_eq_some_iff.1 hg
      have hsz : Try.prog.cellsOf 9 = 1 := by kernel_rfl
      rw [hsz] at hcs
      obtain ⟨_, hl, hc⟩ := World.cells?_some hcs
      obtain ⟨s, rfl, _, _⟩ := DataW.trod_string Try.underlying9 ht
      refine ⟨s, [.string s], rfl, rfl, fun j u hu => ?_⟩
      have hj : j < 1 := (List.getElem?_eq_some_iff.1 hu).1
      have h_ := hc j hj
      rw [Addr.add_add] at h_
      exact h_.trans hu)
    subst hxl
    exact ⟨some a, cap, xs, rfl, hlc, hC⟩
theorem list5 {α : Type} {l : List α} (h : l.length = 5) : ∃ a b c d e, l = [a, b, c, d, e] := by
  match l, h with
  | [a, b, c, d, e], _ => exact ⟨a, b, c, d, e, rfl⟩
theorem open26 {W : World} : ∀ (fuel : Nat) {cs : List Value} {x : DataW H × List MemPlace}, DataW.trod enc Try.prog W 0 (fun _ => true) true fuel 26 cs = some x → ∃ y, cs.length = 5 ∧ k26.K W y cs := by
  intro fuel
  induction fuel using Nat.strongRecOn with
  | ind fuel ih =>
  intro cs x h
  obtain ⟨xs, n, rfl, _, hlen, hxl0, hf⟩ := DataW.trod_struct Try.underlying26 h
  have h5 : Try.prog.cellsOf 26 = 5 := by kernel_rfl
  have h3 : Try.prog.cellsOf 3 = 1 := by kernel_rfl
  have h9 : Try.prog.cellsOf 9 = 1 := by kernel_rfl
  have h23 : Try.prog.cellsOf 23 = 1 := by kernel_rfl
  have h24 : Try.prog.cellsOf 24 = 1 := by kernel_rfl
  rw [h5] at hlen
  obtain ⟨v0, v1, v2, v3, v4, rfl⟩ := list5 hlen
  have hxl : xs.length = 5 := hxl0
  have get : ∀ i (hi : i < 5), ∃ y, xs[i]? = some y := fun i hi => ⟨_, List.getElem?_eq_getElem (by omega)⟩
  obtain ⟨y0, e0⟩ := get 0 (by omega)
  obtain ⟨y1, e1⟩ := get 1 (by omega)
  obtain ⟨y2, e2⟩ := get 2 (by omega)
  obtain ⟨y3, e3⟩ := get 3 (by omega)
  obtain ⟨y4, e4⟩ := get 4 (by omega)
  have f0 : DataW.trod enc Try.prog W 0 (fun _ => true) true n 3 (([v0, v1, v2, v3, v4].drop 0).take (Try.prog.cellsOf 3)) = some y0 := (hf 0 _ rfl).trans e0
  have f1 : DataW.trod enc Try.prog W 0 (fun _ => true) true n 3 (([v0, v1, v2, v3, v4].drop 1).take (Try.prog.cellsOf 3)) = some y1 := (hf 1 _ rfl).trans e1
  have f2 : DataW.trod enc Try.prog W 0 (fun _ => true) true n 9 (([v0, v1, v2, v3, v4].drop 2).take (Try.prog.cellsOf 9)) = some y2 := (hf 2 _ rfl).trans e2
  have f3 : DataW.trod enc Try.prog W 0 (fun _ => true) true n 23 (([v0, v1, v2, v3, v4].drop 3).take (Try.prog.cellsOf 23)) = some y3 := (hf 3 _ rfl).trans e3
  have f4 : DataW.trod enc Try.prog W 0 (fun _ => true) true n 24 (([v0, v1, v2, v3, v4].drop 4).take (Try.prog.cellsOf 24)) = some y4 := (hf 4 _ rfl).trans e4
  rw [h3] at f0 f1
  rw [h9] at f2
  rw [h23] at f3
  rw [h24] at f4
  simp only [List.drop_zero, List.drop_succ_cons, List.take_succ_cons, List.take_zero] at f0 f1 f2 f3 f4
  obtain ⟨k, ek, _, _⟩ := DataW.trod_int Try.underlying3 f0
  obtain ⟨m, em, _, _⟩ := DataW.trod_int Try.underlying3 f1
  obtain ⟨s, es, _, _⟩ := DataW.trod_string Try.underlying9 f2
  obtain ⟨A3, c3, ls, el, l3, g3⟩ := openS f3
  have hA : ∃ A c ar, [v4] = [.slice A ar.length c] ∧ ar.length ≤ c ∧ k26.C W A ar.length ar := by
    rcases DataW.trod_slice Try.underlying24 f4 with ⟨e, _⟩ | ⟨a, len, cap, elems, rest, n', rfl, e, _, _, hlc, hcap, hel, hget, _⟩
    · exact ⟨none, 0, [], e, Nat.le_refl _, Kd.C_nil _ _⟩
    · obtain ⟨xs', hxl', hC⟩ := c_of k26 (W := W) (ad := a) (n := len) (by simp only [maxLen] at hcap; omega) (by
        intro i hi
        have hg := hget i hi
        rw [List.getElem?_eq_getElem (by omega)] at hg
        obtain ⟨cs, hcs, ht⟩ := Option.bind_eq_some_iff.1 hg
        rw [h5] at hcs
        obtain ⟨_, hl, hc⟩ := World.cells?_some hcs
        obtain ⟨y, _, hK⟩ := ih n' (by omega) ht
        refine ⟨y, cs, hl, hK, fun j u hu => ?_⟩
        have hj : j < 5 := by have := (List.getElem?_eq_some_iff.1 hu).1; omega
        have h_ := hc j hj
        rw [Addr.add_add] at h_
        exact h_.trans hu)
      subst hxl'
      exact ⟨some a, cap, xs', e, hlc, hC⟩
  obtain ⟨A4, c4, ar, ea, l4, g4⟩ := hA
  cases ek
  cases em
  cases es
  cases el
  cases ea
  exact ⟨⟨k, m, s, ls, ar⟩, rfl, k26_mk W ⟨k, m, s, ls, ar⟩ l3 g3 l4 g4⟩
theorem openL {W : World} {fuel : Nat} {cs : List Value} {x : DataW H × List MemPlace} (h : DataW.trod enc Try.prog W 0 (fun _ => true) true fuel 24 cs = some x) : ∃ A c ar, cs = [.slice A ar.length c] ∧ ar.length ≤ c ∧ k26.C W A ar.length ar := by
  have h5 : Try.prog.cellsOf 26 = 5 := by kernel_rfl
  rcases DataW.trod_slice Try.underlying24 h with ⟨e, _⟩ | ⟨a, len, cap, elems, rest, n', rfl, e, _, _, hlc, hcap, hel, hget, _⟩
  · exact ⟨none, 0, [], e, Nat.le_refl _, Kd.C_nil _ _⟩
  · obtain ⟨xs', hxl', hC⟩ := c_of k26 (W := W) (ad := a) (n := len) (by simp only [maxLen] at hcap; omega) (by
      intro i hi
      have hg := hget i hi
      rw [List.getElem?_eq_getElem (by omega)] at hg
      obtain ⟨cs, hcs, ht⟩ := Option.bind_eq_some_iff.1 hg
      rw [h5] at hcs
      obtain ⟨_, hl, hc⟩ := World.cells?_some hcs
      obtain ⟨y, _, hK⟩ := open26 n' ht
      refine ⟨y, cs, hl, hK, fun j u hu => ?_⟩
      have hj : j < 5 := by have := (List.getElem?_eq_some_iff.1 hu).1; omega
      have h_ := hc j hj
      rw [Addr.add_add] at h_
      exact h_.trans hu)
    subst hxl'
    exact ⟨some a, cap, xs', e, hlc, hC⟩
set_option maxRecDepth 1000000 in
/-- A type that a row hands over. -/
theorem arg26 {W : World} {r : Reach} {b0 : Nat} {v : Value} {d : DataW H} {p : List MemPlace} (hv : Value.okWide Try.prog W r b0 26 v) (h : DataW.Trod enc Try.prog W 0 (fun _ => true) true 26 v d p) : ∃ y, RT W v y := by
  obtain ⟨cs, rfl, _⟩ := okWide_struct Try.underlying26 hv
  obtain ⟨fuel, h⟩ := h
  obtain ⟨y, _, hK⟩ := open26 fuel h
  obtain ⟨A3, c3, A4, c4, e, l3, g3, l4, g4⟩ := k26_open hK
  refine ⟨y, A3, c3, A4, c4, ?_, l3, g3, l4, g4⟩
  have : cs = #[.int .i64 y.f0, .int .i64 y.f1, .string y.f2, .slice A3 y.f3.length c3, .slice A4 y.f4.length c4] := by
    rw [← Array.toList_inj]; exact e
  rw [this]
end Go.Proofs.Ytkeeknlfommieaa.PF
namespace Go.Proofs.Ytkeeknlfommieaa.PF
open Go.ChangeShapes Go.WideShapes Go.ChangeAt
open Go.RowKit Go.Proofs.YtkeeknlfommieaaW.PrintWords Go.Proofs.YtkeeknlfommieaaW.PrintLast Go.Proofs.YtkeeknlfommieaaW.PrintMore
variable {H : Type} {enc : TypeId × Value → H}
set_option maxRecDepth 1000000 in
theorem argS {W : World} {r : Reach} {b0 : Nat} {v : Value} {d : DataW H} {p : List MemPlace} (hv : Value.okWide Try.prog W r b0 23 v) (h : DataW.Trod enc Try.prog W 0 (fun _ => true) true 23 v d p) : ∃ A c ls, v = .slice A ls.length c ∧ ls.length ≤ c ∧ Kd.string.C W A ls.length ls := by
  obtain ⟨a, len, cap, rfl⟩ := okWide_slice Try.underlying23 hv
  obtain ⟨fuel, h⟩ := h
  obtain ⟨A, c, ls, e, h1, h2⟩ := openS h
  have e' : [Value.slice a len cap] = [.slice A ls.length c] := e
  exact ⟨A, c, ls, (List.cons.inj e').1, h1, h2⟩
set_option maxRecDepth 1000000 in
theorem argL {W : World} {r : Reach} {b0 : Nat} {v : Value} {d : DataW H} {p : List MemPlace} (hv : Value.okWide Try.prog W r b0 24 v) (h : DataW.Trod enc Try.prog W 0 (fun _ => true) true 24 v d p) : ∃ A c ar, v = .slice A ar.length c ∧ ar.length ≤ c ∧ k26.C W A ar.length ar := by
  obtain ⟨a, len, cap, rfl⟩ := okWide_slice Try.underlying24 hv
  obtain ⟨fuel, h⟩ := h
  obtain ⟨A, c, ar, e, h1, h2⟩ := openL h
  have e' : [Value.slice a len cap] = [.slice A ar.length c] := e
  exact ⟨A, c, ar, (List.cons.inj e').1, h1, h2⟩
end Go.Proofs.Ytkeeknlfommieaa.PF
namespace Go.Proofs.Ytkeeknlfommieaa.tyMakes
open Go.ChangeShapes Go.WideShapes Go.ChangeAt Go.RowKit
set_option linter.unusedVariables false
theorem own : ownKnob Try.prog.godebug = none := by kernel_rfl
theorem laidOut : laidOutB Try.prog = true := by kernel_rfl
set_option maxRecDepth 1000000 in
theorem lifted (os : Os) (started : os.Started) (H : Type) (enc : TypeId × Value → H) :
    ReturnsInHanded {} Try.checked os 8 .any (Rows.tyMakesSpec.pre6 enc Try.prog Try.f8 Rows.tyMakesRow.domain false) (Rows.tyMakesSpec.post enc Try.prog Try.f8 false true false false) := by
  refine returnsInHanded_of_change_sized (C := Try.checked) own started (by kernel_rfl) Try.func8
    (ChangeSpec.witness6 (enc := enc) (C := Try.checked) false ⟨#[], #[.slice none 0 0, .slice none 0 0, .agg #[.int .i64 0, .int .i64 0, .string ByteArray.empty, .slice none 0 0, .slice none 0 0], .string ByteArray.empty], []⟩ 8 (by kernel_rfl) (by kernel_rfl) (by kernel_rfl) (by kernel_rfl)) ?_
  intro W base args ds gs before hval0 hW hcnd hsz0 _
  have hval : ∀ (j : Nat) t v, Try.f8.params[j]? = some t → args[j]? = some v → Value.okWide Try.prog W .any base t v := hval0
  have hW' := hW
  obtain ⟨p, q, hA0, hV, rfl, hfz, hnd⟩ := hW
  have hA : DataW.TrodAll enc Try.prog W 0 (fun _ => true) true Try.f8.params.toList args.toList ds p := hA0
  rw [Try.params8] at hA hval
  obtain ⟨v0, vs0, d0, ds0, p0, q0, hargs, rfl, rfl, h0, r0⟩ := trodAll_cons hA
  obtain ⟨v1, vs1, d1, ds1, p1, q1, rfl, rfl, rfl, h1, r1⟩ := trodAll_cons r0
  obtain ⟨v2, vs2, d2, ds2, p2, q2, rfl, rfl, rfl, h2, r2⟩ := trodAll_cons r1
  obtain ⟨v3, vs3, d3, ds3, p3, q3, rfl, rfl, rfl, h3, r3⟩ := trodAll_cons r2
  obtain ⟨rfl, rfl, rfl⟩ := trodAll_nil r3
  obtain rfl : args = #[v0, v1, v2, v3] := by cases args; simp_all
  obtain ⟨rfl, rfl⟩ := trodVars_none hV
  have lt0 : ∀ x ∈ p0, x.block < W.heap.size := by obtain ⟨m, hm⟩ := h0; exact DataW.trod_lt m _ _ _ hm
  have lt1 : ∀ x ∈ p1, x.block < W.heap.size := by obtain ⟨m, hm⟩ := h1; exact DataW.trod_lt m _ _ _ hm
  have lt2 : ∀ x ∈ p2, x.block < W.heap.size := by obtain ⟨m, hm⟩ := h2; exact DataW.trod_lt m _ _ _ hm
  have lt3 : ∀ x ∈ p3, x.block < W.heap.size := by obtain ⟨m, hm⟩ := h3; exact DataW.trod_lt m _ _ _ hm
  obtain ⟨A, c, ls, rfl, lc, g3⟩ := PF.argS (hval 0 23 v0 rfl rfl) h0
  obtain ⟨B, d, ar, rfl, ld, g4⟩ := PF.argL (hval 1 24 v1 rfl rfl) h1
  obtain ⟨t, T3, c3, T4, c4, rfl, k3, k4, k5, k6⟩ := PF.arg26 (hval 2 26 v2 rfl rfl) h2
  obtain ⟨s, rfl⟩ := okWide_string Try.underlying9 (hval 3 9 v3 rfl rfl)
  clear hA0 hval0 hsz0
  refine (PF.tymakes_calls ls ar t s W A c B d T3 c3 T4 c4 lc g3 ld g4 ⟨k3, k4, k5, k6⟩).mono fun e W' ⟨he, bel⟩ => ?_
  subst he
  exact ⟨_, rfl, _, _, _, [], _, [], hW', trodAll_mk1 (shut_bool Try.underlying4 _), (trodAll_cons_mk (Below.trod laidOut (by kernel_rfl) (of_decide_eq_true (by kernel_rfl)) h0 bel lt0) (trodAll_cons_mk (Below.trod laidOut (by kernel_rfl) (of_decide_eq_true (by kernel_rfl)) h1 bel lt1) (trodAll_cons_mk (Below.trod laidOut (by kernel_rfl) (of_decide_eq_true (by kernel_rfl)) h2 bel lt2) (trodAll_cons_mk (Below.trod laidOut (by kernel_rfl) (of_decide_eq_true (by kernel_rfl)) h3 bel lt3) trodAll_mk0)))), rfl, bel.frame _, fun h => by cases h⟩
theorem over : Rows.tyMakesRow.holds Try.pinned (OpenSpec.ofChange Rows.tyMakesSpec) :=
  OpenClaim.holds_of_wide 8 Try.f8 rfl rfl rfl rfl rfl rfl rfl ⟨rfl, rfl, rfl, rfl, rfl⟩ rfl rfl rfl rfl rfl (by kernel_rfl) Try.func8 (by kernel_rfl)
    (of_decide_eq_true (by kernel_rfl)) (by unfold Func.isWrapper; first | (rw [if_pos (by decide +kernel)]; kernel_rfl) | (rw [if_neg (by decide +kernel)]; exact ⟨rfl, rfl⟩))
    (fun os started H enc _ => lifted os started H enc)
theorem proved : Rows.TyMakesSaid := over
end Go.Proofs.Ytkeeknlfommieaa.tyMakes
namespace Go.Proofs.Ytkeeknlfommieaa
theorem tyMakes_holds : Rows.TyMakesSaid := tyMakes.proved
end Go.Proofs.Ytkeeknlfommieaa
