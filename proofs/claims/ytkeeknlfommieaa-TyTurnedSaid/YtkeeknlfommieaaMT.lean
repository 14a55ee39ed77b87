/- The law TyMakes: the walk. · A record is the same in whatever order its fields are named; each field has its type: in plain words. · What a row of the arguments hands to append; ty.Field's result, read in the world of the call. · The law TyTurned: the walk. · What the rows hand over: types, lists of types and of texts, opened into the words of the walks. · What the rows hand over: a list of texts, a list of types. · What the rows hand over: a small number; an int. · The row of TyTurned. -/
import Derived.Test.YtkeeknlfommieaaM0
import Derived.Test.YtkeeknlfommieaaM3
import Derived.Test.YtkeeknlfommieaaM4
import Derived.Test.YtkeeknlfommieaaM5
import Derived.Deep.RegionHeld3
import Derived.Test.YtkeeknlfommieaaM2
import Derived.ChangeArms
import Derived.WalkKit
import Derived.ProofKit
import Derived.OpenShut
import Derived.ShutString
import Derived.ChangeOld
import Derived.Carry
import Derived.SizedLaws
import Derived.Test.YtkeeknlfommieaaRows
namespace Go.Proofs.Ytkeeknlfommieaa.PF
open Go.RowKit Go.Shelf Go.Proofs.YtkeeknlfommieaaW.PrintWords Go.Proofs.YtkeeknlfommieaaW.PrintLast Go.Proofs.YtkeeknlfommieaaW.PrintMore

theorem cells5 {W : World} {g : Nat} {a0 a1 a2 a3 a4 : Value} (h : W.heap[g]? = some (.cells #[a0, a1, a2, a3, a4] 26 (0, 0))) : W.cell? ⟨g, 0, none⟩ = some a0 ∧ W.cell? ⟨g, 1, none⟩ = some a1 ∧ W.cell? ⟨g, 2, none⟩ = some a2 ∧ W.cell? ⟨g, 3, none⟩ = some a3 ∧ W.cell? ⟨g, 4, none⟩ = some a4 :=
  ⟨blk_cell h 0, blk_cell h 1, blk_cell h 2, blk_cell h 3, blk_cell h 4⟩
/-- A type's box. -/
def BoxT (W : World) (g : Nat) (x : S26) (A3 : Option Addr) (c3 : Nat) (A4 : Option Addr) (c4 : Nat) : Prop := W.heap[g]? = some (.cells #[.int .i64 x.f0, .int .i64 x.f1, .string x.f2, .slice A3 x.f3.length c3, .slice A4 x.f4.length c4] 26 (0, 0))
theorem BoxT.below {W W1 : World} {g : Nat} {x : S26} {A3 : Option Addr} {c3 : Nat} {A4 : Option Addr} {c4 : Nat} (h : BoxT W g x A3 c3 A4 c4) (hb : Below W.heap.size W W1) : BoxT W1 g x A3 c3 A4 c4 := blk_below h hb
theorem BoxT.alloc {W : World} {g : Nat} {x : S26} {A3 : Option Addr} {c3 : Nat} {A4 : Option Addr} {c4 : Nat} (h : BoxT W g x A3 c3 A4 c4) (ob : Obj) : BoxT (W.alloc ob) g x A3 c3 A4 c4 := blk_alloc h _
/-- What a type's cells read as: the four facts that the contracts ask. -/
structure Rd (W : World) (x : S26) (A3 : Option Addr) (c3 : Nat) (A4 : Option Addr) (c4 : Nat) : Prop where
  l3 : x.f3.length ≤ c3
  g3 : Kd.string.C W A3 x.f3.length x.f3
  l4 : x.f4.length ≤ c4
  g4 : k26.C W A4 x.f4.length x.f4
theorem Rd.below {W W1 : World} {x : S26} {A3 : Option Addr} {c3 : Nat} {A4 : Option Addr} {c4 : Nat} (h : Rd W x A3 c3 A4 c4) (hb : Below W.heap.size W W1) : Rd W1 x A3 c3 A4 c4 := ⟨h.l3, Kd.C_below h.g3 hb, h.l4, Kd.C_below h.g4 hb⟩
theorem Rd.of {W : World} {v : Value} {x : S26} (h : RT W v x) : ∃ A3 c3 A4 c4, v = .agg #[.int .i64 x.f0, .int .i64 x.f1, .string x.f2, .slice A3 x.f3.length c3, .slice A4 x.f4.length c4] ∧ Rd W x A3 c3 A4 c4 := by
  obtain ⟨A3, c3, A4, c4, e, l3, g3, l4, g4⟩ := h
  exact ⟨A3, c3, A4, c4, e, l3, g3, l4, g4⟩
/-- A call that hands back a type and whether. -/
theorem ResTy.open_ {y : S26 × Bool} {w : World} {e : Ending} {w' : World} (h : ResTy y w e w') : ∃ A3 c3 A4 c4, e = .returned (.tuple #[.agg #[.int .i64 y.1.f0, .int .i64 y.1.f1, .string y.1.f2, .slice A3 y.1.f3.length c3, .slice A4 y.1.f4.length c4], .bool y.2]) ∧ Rd w' y.1 A3 c3 A4 c4 ∧ Below w.heap.size w w' := by
  obtain ⟨⟨v, rfl, hr⟩, hb⟩ := h
  obtain ⟨A3, c3, A4, c4, rfl, hr2⟩ := Rd.of hr
  exact ⟨A3, c3, A4, c4, rfl, hr2, hb⟩
theorem rsame_true {W : World} {x : S26} {A3 : Option Addr} {c3 : Nat} {A4 : Option Addr} {c4 : Nat} {B3 : Option Addr} {d3 : Nat} {B4 : Option Addr} {d4 : Nat} (h : Rd W x A3 c3 A4 c4) (k : Rd W x B3 d3 B4 d4) :
    Calls Try.prog 38 #[.agg #[.int .i64 x.f0, .int .i64 x.f1, .string x.f2, .slice A3 x.f3.length c3, .slice A4 x.f4.length c4], .agg #[.int .i64 x.f0, .int .i64 x.f1, .string x.f2, .slice B3 x.f3.length d3, .slice B4 x.f4.length d4]] W fun e w' => e = .returned (.bool true) ∧ Below W.heap.size W w' := by
  have := rsame_calls x x W A3 c3 A4 c4 B3 d3 B4 d4 h.l3 h.g3 h.l4 h.g4 k.l3 k.g3 k.l4 k.g4
  rw [eqB_self] at this
  exact this
set_option maxRecDepth 100000 in
theorem rsame_fun {W : World} {a b : S26} {A3 : Option Addr} {c3 : Nat} {A4 : Option Addr} {c4 : Nat} {B3 : Option Addr} {d3 : Nat} {B4 : Option Addr} {d4 : Nat} (h : Rd W (funT a b) A3 c3 A4 c4) (k : Rd W (funT a b) B3 d3 B4 d4) :
    Calls Try.prog 38 #[.agg #[.int .i64 7, .int .i64 0, .string ⟨#[]⟩, .slice A3 0 c3, .slice A4 2 c4], .agg #[.int .i64 7, .int .i64 0, .string ⟨#[]⟩, .slice B3 0 d3, .slice B4 2 d4]] W fun e w' => e = .returned (.bool true) ∧ Below W.heap.size W w' := by
  have := rsame_true h k
  rw [show (funT a b).f0 = 7 from rfl, show (funT a b).f1 = 0 from rfl, show (funT a b).f2 = ⟨#[]⟩ from rfl, show (funT a b).f3.length = 0 from rfl, show (funT a b).f4.length = 2 from rfl] at this
  exact this
theorem fun_rd {W : World} {a b : S26} {A3 : Option Addr} {c3 : Nat} {A4 : Option Addr} {c4 : Nat} {B3 : Option Addr} {d3 : Nat} {B4 : Option Addr} {d4 : Nat} (h : Rd W a A3 c3 A4 c4) (k : Rd W b B3 d3 B4 d4) :
    Calls Try.prog 44 #[.agg #[.int .i64 a.f0, .int .i64 a.f1, .string a.f2, .slice A3 a.f3.length c3, .slice A4 a.f4.length c4], .agg #[.int .i64 b.f0, .int .i64 b.f1, .string b.f2, .slice B3 b.f3.length d3, .slice B4 b.f4.length d4]] W fun e w' => (∃ X3 x3 X4 x4, e = .returned (.agg #[.int .i64 7, .int .i64 0, .string ⟨#[]⟩, .slice X3 0 x3, .slice X4 2 x4]) ∧ Aside0 (Rd w' (funT a b) X3 x3 X4 x4)) ∧ Below W.heap.size W w' := by
  refine (fun_calls a b W A3 c3 A4 c4 B3 d3 B4 d4 h.l3 h.g3 h.l4 h.g4 k.l3 k.g3 k.l4 k.g4).mono ?_
  rintro e w' ⟨⟨v, rfl, hr⟩, hb⟩
  obtain ⟨X3, x3, X4, x4, rfl, hr2⟩ := Rd.of hr
  exact ⟨⟨X3, x3, X4, x4, rfl, ⟨hr2⟩⟩, hb⟩
theorem rfun_rd {W : World} {a b : S26} {A3 : Option Addr} {c3 : Nat} {A4 : Option Addr} {c4 : Nat} {B3 : Option Addr} {d3 : Nat} {B4 : Option Addr} {d4 : Nat} (h : Rd W a A3 c3 A4 c4) (k : Rd W b B3 d3 B4 d4) :
    Calls Try.prog 45 #[.agg #[.int .i64 a.f0, .int .i64 a.f1, .string a.f2, .slice A3 a.f3.length c3, .slice A4 a.f4.length c4], .agg #[.int .i64 b.f0, .int .i64 b.f1, .string b.f2, .slice B3 b.f3.length d3, .slice B4 b.f4.length d4]] W fun e w' => (∃ X3 x3 X4 x4, e = .returned (.agg #[.int .i64 7, .int .i64 0, .string ⟨#[]⟩, .slice X3 0 x3, .slice X4 2 x4]) ∧ Aside0 (Rd w' (funT a b) X3 x3 X4 x4)) ∧ Below W.heap.size W w' := by
  refine (rfun_calls a b W A3 c3 A4 c4 B3 d3 B4 d4 h.l3 h.g3 h.l4 h.g4 k.l3 k.g3 k.l4 k.g4).mono ?_
  rintro e w' ⟨⟨v, rfl, hr⟩, hb⟩
  obtain ⟨X3, x3, X4, x4, rfl, hr2⟩ := Rd.of hr
  exact ⟨⟨X3, x3, X4, x4, rfl, ⟨hr2⟩⟩, hb⟩
set_option maxRecDepth 100000 in
set_option maxHeartbeats 4000000 in
theorem tymakes_calls (ls : List ByteArray) (ar : List S26) (t : S26) (s : ByteArray) (w : World) (A : Option Addr) (c : Nat) (B : Option Addr) (d : Nat) (T3 : Option Addr) (c3 : Nat) (T4 : Option Addr) (c4 : Nat) (lc : ls.length ≤ c) (g3 : Kd.string.C w A ls.length ls) (ld : ar.length ≤ d) (g4 : k26.C w B ar.length ar) (ht : Rd w t T3 c3 T4 c4) :
    Calls Try.prog 8 #[.slice A ls.length c, .slice B ar.length d, .agg #[.int .i64 t.f0, .int .i64 t.f1, .string t.f2, .slice T3 t.f3.length c3, .slice T4 t.f4.length c4], .string s] w fun e w' => e = .returned (.bool true) ∧ Below w.heap.size w w' := by
  have HFEW := Aside0.mk (fun (W : World) (hb : Below w.heap.size w W) => few_calls A B c d ls ar W (Kd.C_below g3 hb) (Kd.C_below g4 hb))
  have HREC := Aside0.mk (fun (h60 : ls.length ≤ 60) (W : World) (hb : Below w.heap.size w W) => rec_calls 60 sort_60 (by decide) A B c d ls ar W lc ld (Kd.C_below g3 hb) (Kd.C_below g4 hb) h60)
  have HRREC := Aside0.mk (fun (h60 : ls.length ≤ 60) (W : World) (hb : Below w.heap.size w W) => rrec_calls A B c d ls ar W (Kd.C_below g3 hb) (Kd.C_below g4 hb) (Nat.le_trans h60 (by decide)))
  rw [refRec_eq] at HRREC
  have HRT := Aside0.mk ht
  clear lc ld g3 g4 ht
  obtain ⟨⟨r, ok⟩, hR⟩ : ∃ y, recT ls ar = y := ⟨_, rfl⟩
  obtain ⟨⟨f, is⟩, hF⟩ : ∃ y, fieldT t s = y := ⟨_, rfl⟩
  rw [hR] at HREC HRREC
  have HFD := Aside0.mk (fun (W : World) (hb : Below w.heap.size w W) => field_calls t s W T3 c3 T4 c4 HRT.out.l3 (Kd.C_below HRT.out.g3 hb) (Kd.C_below HRT.out.g4 hb))
  have HRFD := Aside0.mk (fun (W : World) (hb : Below w.heap.size w W) => rfield_calls t s W T3 c3 T4 c4 HRT.out.l3 (Kd.C_below HRT.out.g3 hb) (Kd.C_below HRT.out.g4 hb))
  rw [hF] at HFD HRFD
  clear hR hF
  have HM := Aside0.mk (fun (W : World) (hb : Below w.heap.size w W) => much_calls t W T3 c3 T4 c4 HRT.out.l3 (Kd.C_below HRT.out.g3 hb) HRT.out.l4 (Kd.C_below HRT.out.g4 hb))
  obtain ⟨gt, hgt⟩ : ∃ g, g = w.heap.size := ⟨_, rfl⟩
  have HGT := Aside0.mk hgt
  have HB0 := Aside0.mk (below_alloc (Below.refl w.heap.size w) (.cells #[.int .i64 t.f0, .int .i64 t.f1, .string t.f2, .slice T3 t.f3.length c3, .slice T4 t.f4.length c4] 26))
  have HBT0 := Aside0.mk (show BoxT (w.alloc (.cells #[.int .i64 t.f0, .int .i64 t.f1, .string t.f2, .slice T3 t.f3.length c3, .slice T4 t.f4.length c4] 26)) w.heap.size t T3 c3 T4 c4 from blk_new _ _)
  clear hgt
  go_enter Try.func8, Try.ntmps8
  go_wp2_with (fail)
  refine (HFEW.out _ HB0.out).mono ?_
  rintro e w1 ⟨⟨b, rfl, hb60⟩, hb1⟩
  have HB60 := Aside0.mk hb60
  have HB1 := Aside0.mk (HB0.out.trans (hb1.mono (by simp)))
  have HBT1 := Aside0.mk (HBT0.out.below hb1)
  clear hb1 hb60
  cases b with
  | false =>
    go_wp2_with (go_at_call 25; refine (awake_calls _).mono ?_; rintro e w2 ⟨rfl, hb2⟩)
    go_ret
    exact ⟨rfl, HB1.out.trans (hb2.mono HB1.out.size)⟩
  | true =>
    have H60 := Aside0.mk (HB60.out rfl).1
    obtain ⟨k0, k1, k2, k3, k4⟩ := cells5 HBT1.out
    go_wp2_with (fail)
    refine (HM.out _ HB1.out).mono ?_
    rintro e w2 ⟨⟨q, rfl⟩, hb2⟩
    have HB2 := Aside0.mk (HB1.out.trans (hb2.mono HB1.out.size))
    have HBT2 := Aside0.mk (HBT1.out.below hb2)
    clear hb2 k0 k1 k2 k3 k4
    rcases Int.lt_or_le 500 q with hq | hq
    · have hq' : q > 500 := hq
      go_wp2_with (go_at_call 25; refine (awake_calls _).mono ?_; rintro e w3 ⟨rfl, hb3⟩)
      go_ret
      exact ⟨rfl, HB2.out.trans (hb3.mono HB2.out.size)⟩
    · have hq' : ¬ q > 500 := by omega
      go_wp2_with (fail)
      refine (HREC.out H60.out _ HB2.out).mono ?_
      intro e w3 h3
      obtain ⟨A3, a3, A4, a4, rfl, hra, hb3⟩ := h3.open_
      dsimp only at hra
      have HB3 := Aside0.mk (HB2.out.trans (hb3.mono HB2.out.size))
      have HBT3 := Aside0.mk (HBT2.out.below hb3)
      have HRA := Aside0.mk hra
      clear h3 hb3 hra hq hq'
      go_wp2_with (fail)
      have HA3 := Aside0.mk (below_alloc (Below.refl w3.heap.size w3) (.cells #[.int .i64 r.f0, .int .i64 r.f1, .string r.f2, .slice A3 r.f3.length a3, .slice A4 r.f4.length a4] 26))
      have HBA3 := Aside0.mk (show BoxT (w3.alloc (.cells #[.int .i64 r.f0, .int .i64 r.f1, .string r.f2, .slice A3 r.f3.length a3, .slice A4 r.f4.length a4] 26)) w3.heap.size r A3 a3 A4 a4 from blk_new _ _)
      refine (HRREC.out H60.out _ (HB3.out.trans (HA3.out.mono HB3.out.size))).mono ?_
      intro e w4 h4
      obtain ⟨B3, b3, B4, b4, rfl, hrb, hb4⟩ := h4.open_
      dsimp only at hrb
      have HB4 := Aside0.mk ((HB3.out.trans (HA3.out.mono HB3.out.size)).trans (hb4.mono (Nat.le_trans HB3.out.size HA3.out.size)))
      have HBT4 := Aside0.mk ((HBT3.out.below HA3.out).below hb4)
      have HBA4 := Aside0.mk (HBA3.out.below hb4)
      have HRA4 := Aside0.mk ((HRA.out.below HA3.out).below hb4)
      have HRB := Aside0.mk hrb
      have hz4 : w.heap.size < w4.heap.size := blk_lt HBT4.out
      obtain ⟨k0, k1, k2, k3, k4⟩ := cells5 HBT4.out
      clear h4 hb4 hrb
      go_wp2_with (fail)
      have HA4 := Aside0.mk (below_alloc (Below.refl w4.heap.size w4) (.cells #[.int .i64 r.f0, .int .i64 r.f1, .string r.f2, .slice B3 r.f3.length b3, .slice B4 r.f4.length b4] 26))
      have HBB4 := Aside0.mk (show BoxT (w4.alloc (.cells #[.int .i64 r.f0, .int .i64 r.f1, .string r.f2, .slice B3 r.f3.length b3, .slice B4 r.f4.length b4] 26)) w4.heap.size r B3 b3 B4 b4 from blk_new _ _)
      refine (HFD.out _ (HB4.out.trans (HA4.out.mono HB4.out.size))).mono ?_
      intro e w5 h5
      obtain ⟨C3, e3, C4, e4, rfl, hrc, hb5⟩ := ResTy.open_ (y := (f, is)) h5
      dsimp only at hrc
      have HB5 := Aside0.mk ((HB4.out.trans (HA4.out.mono HB4.out.size)).trans (hb5.mono (Nat.le_trans HB4.out.size HA4.out.size)))
      have HBT5 := Aside0.mk ((HBT4.out.below HA4.out).below hb5)
      have HBA5 := Aside0.mk ((HBA4.out.below HA4.out).below hb5)
      have HBB5 := Aside0.mk (HBB4.out.below hb5)
      have HRA5 := Aside0.mk ((HRA4.out.below HA4.out).below hb5)
      have HRB5 := Aside0.mk ((HRB.out.below HA4.out).below hb5)
      have HRC := Aside0.mk hrc
      have hz5 : w.heap.size < w5.heap.size := blk_lt HBT5.out
      clear h5 hb5 hrc k0 k1 k2 k3 k4
      obtain ⟨k0, k1, k2, k3, k4⟩ := cells5 HBT5.out
      go_wp2_with (fail)
      have HA5 := Aside0.mk (below_alloc (Below.refl w5.heap.size w5) (.cells #[.int .i64 f.f0, .int .i64 f.f1, .string f.f2, .slice C3 f.f3.length e3, .slice C4 f.f4.length e4] 26))
      have HBC5 := Aside0.mk (show BoxT (w5.alloc (.cells #[.int .i64 f.f0, .int .i64 f.f1, .string f.f2, .slice C3 f.f3.length e3, .slice C4 f.f4.length e4] 26)) w5.heap.size f C3 e3 C4 e4 from blk_new _ _)
      refine (HRFD.out _ (HB5.out.trans (HA5.out.mono HB5.out.size))).mono ?_
      intro e w6 h6
      obtain ⟨D3, o3, D4, o4, rfl, hrd, hb6⟩ := ResTy.open_ (y := (f, is)) h6
      dsimp only at hrd
      have HB6 := Aside0.mk ((HB5.out.trans (HA5.out.mono HB5.out.size)).trans (hb6.mono (Nat.le_trans HB5.out.size HA5.out.size)))
      have HBT6 := Aside0.mk ((HBT5.out.below HA5.out).below hb6)
      have HBA6 := Aside0.mk ((HBA5.out.below HA5.out).below hb6)
      have HBB6 := Aside0.mk ((HBB5.out.below HA5.out).below hb6)
      have HBC6 := Aside0.mk (HBC5.out.below hb6)
      have HRA6 := Aside0.mk ((HRA5.out.below HA5.out).below hb6)
      have HRB6 := Aside0.mk ((HRB5.out.below HA5.out).below hb6)
      have HRC6 := Aside0.mk ((HRC.out.below HA5.out).below hb6)
      have HRD := Aside0.mk hrd
      clear h6 hb6 hrd k0 k1 k2 k3 k4
      go_wp2_with (fail)
      have HA6 := Aside0.mk (below_alloc (Below.refl w6.heap.size w6) (.cells #[.int .i64 f.f0, .int .i64 f.f1, .string f.f2, .slice D3 f.f3.length o3, .slice D4 f.f4.length o4] 26))
      have HBD7 := Aside0.mk (show BoxT (w6.alloc (.cells #[.int .i64 f.f0, .int .i64 f.f1, .string f.f2, .slice D3 f.f3.length o3, .slice D4 f.f4.length o4] 26)) w6.heap.size f D3 o3 D4 o4 from blk_new _ _)
      have HBT7 := Aside0.mk (HBT6.out.below HA6.out)
      have HBA7 := Aside0.mk (HBA6.out.below HA6.out)
      have HBB7 := Aside0.mk (HBB6.out.below HA6.out)
      have HBC7 := Aside0.mk (HBC6.out.below HA6.out)
      have HRA7 := Aside0.mk (HRA6.out.below HA6.out)
      have HRB7 := Aside0.mk (HRB6.out.below HA6.out)
      have HRC7 := Aside0.mk (HRC6.out.below HA6.out)
      have HRD7 := Aside0.mk (HRD.out.below HA6.out)
      have HB7 := Aside0.mk (HB6.out.trans (HA6.out.mono HB6.out.size))
      have HRT7 := Aside0.mk (HRT.out.below HB7.out)
      clear HBT0 HBT1 HBT2 HBT3 HBT4 HBT5 HBT6 HBA3 HBA4 HBA5 HBA6 HBB4 HBB5 HBB6 HBC5 HBC6 HRA HRA4 HRA5 HRA6 HRB HRB5 HRB6 HRC HRC6 HRD HA3 HA4 HA5 HA6 HB6 HB5 HB4 HB3 HB2 HB1 HB0 HFEW HREC HRREC HFD HRFD HM
      generalize w6.alloc (.cells #[.int .i64 f.f0, .int .i64 f.f1, .string f.f2, .slice D3 f.f3.length o3, .slice D4 f.f4.length o4] 26) = W7 at *
      generalize w3.heap.size = ga at *
      generalize w4.heap.size = gb at *
      generalize w5.heap.size = gc at *
      generalize w6.heap.size = gd at *
      have HSAB := Aside0.mk (fun (W : World) (hb : Below W7.heap.size W7 W) => rsame_true (HRA7.out.below hb) (HRB7.out.below hb))
      have HSCD := Aside0.mk (fun (W : World) (hb : Below W7.heap.size W7 W) => rsame_true (HRC7.out.below hb) (HRD7.out.below hb))
      have HFU := Aside0.mk (fun (W : World) (hb : Below W7.heap.size W7 W) => fun_rd (HRT7.out.below hb) (HRA7.out.below hb))
      have HRF := Aside0.mk (fun (W : World) (hb : Below W7.heap.size W7 W) => rfun_rd (HRT7.out.below hb) (HRA7.out.below hb))
      have HSof := Aside0.mk (show ∀ W', Below W7.heap.size W7 W' → (W'.cell? ⟨w.heap.size, 0, none⟩ = some (.int .i64 t.f0) ∧ W'.cell? ⟨w.heap.size, 1, none⟩ = some (.int .i64 t.f1) ∧ W'.cell? ⟨w.heap.size, 2, none⟩ = some (.string t.f2) ∧ W'.cell? ⟨w.heap.size, 3, none⟩ = some (.slice T3 t.f3.length c3) ∧ W'.cell? ⟨w.heap.size, 4, none⟩ = some (.slice T4 t.f4.length c4) ∧ W'.cell? ⟨ga, 0, none⟩ = some (.int .i64 r.f0) ∧ W'.cell? ⟨ga, 1, none⟩ = some (.int .i64 r.f1) ∧ W'.cell? ⟨ga, 2, none⟩ = some (.string r.f2) ∧ W'.cell? ⟨ga, 3, none⟩ = some (.slice A3 r.f3.length a3) ∧ W'.cell? ⟨ga, 4, none⟩ = some (.slice A4 r.f4.length a4) ∧ W'.cell? ⟨gb, 0, none⟩ = some (.int .i64 r.f0) ∧ W'.cell? ⟨gb, 1, none⟩ = some (.int .i64 r.f1) ∧ W'.cell? ⟨gb, 2, none⟩ = some (.string r.f2) ∧ W'.cell? ⟨gb, 3, none⟩ = some (.slice B3 r.f3.length b3) ∧ W'.cell? ⟨gb, 4, none⟩ = some (.slice B4 r.f4.length b4) ∧ W'.cell? ⟨gc, 0, none⟩ = some (.int .i64 f.f0) ∧ W'.cell? ⟨gc, 1, none⟩ = some (.int .i64 f.f1) ∧ W'.cell? ⟨gc, 2, none⟩ = some (.string f.f2) ∧ W'.cell? ⟨gc, 3, none⟩ = some (.slice C3 f.f3.length e3) ∧ W'.cell? ⟨gc, 4, none⟩ = some (.slice C4 f.f4.length e4) ∧ W'.cell? ⟨gd, 0, none⟩ = some (.int .i64 f.f0) ∧ W'.cell? ⟨gd, 1, none⟩ = some (.int .i64 f.f1) ∧ W'.cell? ⟨gd, 2, none⟩ = some (.string f.f2) ∧ W'.cell? ⟨gd, 3, none⟩ = some (.slice D3 f.f3.length o3) ∧ W'.cell? ⟨gd, 4, none⟩ = some (.slice D4 f.f4.length o4) ∧ Below W7.heap.size W7 W') from fun W' hb => by
        obtain ⟨a0, a1, a2, a3, a4⟩ := cells5 (HBT7.out.below hb)
        obtain ⟨b0, b1, b2, b3, b4⟩ := cells5 (HBA7.out.below hb)
        obtain ⟨c0, c1, c2, c3, c4⟩ := cells5 (HBB7.out.below hb)
        obtain ⟨d0, d1, d2, d3, d4⟩ := cells5 (HBC7.out.below hb)
        obtain ⟨e0, e1, e2, e3, e4⟩ := cells5 (HBD7.out.below hb)
        exact ⟨a0, a1, a2, a3, a4, b0, b1, b2, b3, b4, c0, c1, c2, c3, c4, d0, d1, d2, d3, d4, e0, e1, e2, e3, e4, hb⟩)
      have HLOW := Aside0.mk (below_drew (Below.refl W7.heap.size W7))
      go_region_held3 (fun W' => W'.cell? ⟨w.heap.size, 0, none⟩ = some (.int .i64 t.f0) ∧ W'.cell? ⟨w.heap.size, 1, none⟩ = some (.int .i64 t.f1) ∧ W'.cell? ⟨w.heap.size, 2, none⟩ = some (.string t.f2) ∧ W'.cell? ⟨w.heap.size, 3, none⟩ = some (.slice T3 t.f3.length c3) ∧ W'.cell? ⟨w.heap.size, 4, none⟩ = some (.slice T4 t.f4.length c4) ∧ W'.cell? ⟨ga, 0, none⟩ = some (.int .i64 r.f0) ∧ W'.cell? ⟨ga, 1, none⟩ = some (.int .i64 r.f1) ∧ W'.cell? ⟨ga, 2, none⟩ = some (.string r.f2) ∧ W'.cell? ⟨ga, 3, none⟩ = some (.slice A3 r.f3.length a3) ∧ W'.cell? ⟨ga, 4, none⟩ = some (.slice A4 r.f4.length a4) ∧ W'.cell? ⟨gb, 0, none⟩ = some (.int .i64 r.f0) ∧ W'.cell? ⟨gb, 1, none⟩ = some (.int .i64 r.f1) ∧ W'.cell? ⟨gb, 2, none⟩ = some (.string r.f2) ∧ W'.cell? ⟨gb, 3, none⟩ = some (.slice B3 r.f3.length b3) ∧ W'.cell? ⟨gb, 4, none⟩ = some (.slice B4 r.f4.length b4) ∧ W'.cell? ⟨gc, 0, none⟩ = some (.int .i64 f.f0) ∧ W'.cell? ⟨gc, 1, none⟩ = some (.int .i64 f.f1) ∧ W'.cell? ⟨gc, 2, none⟩ = some (.string f.f2) ∧ W'.cell? ⟨gc, 3, none⟩ = some (.slice C3 f.f3.length e3) ∧ W'.cell? ⟨gc, 4, none⟩ = some (.slice C4 f.f4.length e4) ∧ W'.cell? ⟨gd, 0, none⟩ = some (.int .i64 f.f0) ∧ W'.cell? ⟨gd, 1, none⟩ = some (.int .i64 f.f1) ∧ W'.cell? ⟨gd, 2, none⟩ = some (.string f.f2) ∧ W'.cell? ⟨gd, 3, none⟩ = some (.slice D3 f.f3.length o3) ∧ W'.cell? ⟨gd, 4, none⟩ = some (.slice D4 f.f4.length o4) ∧ Below W7.heap.size W7 W') (first | (with_reducible exact HSof.out _ HLOW.out) | fail) (first | (go_at_call 38; with_reducible refine (HSAB.out _ HLOW.out).mono ?_; rintro e wa ⟨rfl, hba⟩; have HLN := Aside0.mk (HLOW.out.trans (hba.mono HLOW.out.size)); clear HLOW; have HLOW := HLN; clear HLN; clear hba) | (go_at_call 38; with_reducible refine (HSCD.out _ HLOW.out).mono ?_; rintro e wa ⟨rfl, hba⟩; have HLN := Aside0.mk (HLOW.out.trans (hba.mono HLOW.out.size)); clear HLOW; have HLOW := HLN; clear HLN; clear hba) | (go_at_call 44; with_reducible refine (HFU.out _ HLOW.out).mono ?_; rintro e wa ⟨⟨X3, x3, X4, x4, rfl, HRX⟩, hba⟩; have HLN := Aside0.mk (HLOW.out.trans (hba.mono HLOW.out.size)); clear HLOW; have HLOW := HLN; clear HLN; clear hba) | (go_at_call 45; with_reducible refine (HRF.out _ HLOW.out).mono ?_; rintro e wb ⟨⟨Y3, y3, Y4, y4, rfl, HRY⟩, hba⟩; have HRX2 := Aside0.mk (HRX.out.below hba); clear HRX; have HRX := HRX2; clear HRX2; have HLN := Aside0.mk (HLOW.out.trans (hba.mono HLOW.out.size)); clear HLOW; have HLOW := HLN; clear HLN; clear hba) | (go_at_call 38; with_reducible refine (rsame_fun HRX.out HRY.out).mono ?_; rintro e wa ⟨rfl, hba⟩; have HLN := Aside0.mk (HLOW.out.trans (hba.mono HLOW.out.size)); clear HLOW; have HLOW := HLN; clear HLN; clear hba) | (go_at_call 25; with_reducible refine (awake_calls _).mono ?_; rintro e wa ⟨rfl, hba⟩; have HLN := Aside0.mk (HLOW.out.trans (hba.mono HLOW.out.size)); clear HLOW; have HLOW := HLN; clear HLN; clear hba) | fail)
      all_goals
        go_wp2
        go_ret
        exact ⟨rfl, HB7.out.trans (HLOW.out.mono HB7.out.size)⟩
end Go.Proofs.Ytkeeknlfommieaa.PF
namespace Go.Proofs.Ytkeeknlfommieaa.PF

theorem recT_perm {ls ls' : List ByteArray} {ar ar' : List S26} (h : ls.length = ar.length) (h' : ls'.length = ar'.length) (hp : (ls'.zip ar').Perm (ls.zip ar)) : recT ls' ar' = recT ls ar := by
  have hs : ((ls.zip ar).mergeSort leP).Pairwise fun a b => ¬ key b < key a := by
    have := List.pairwise_mergeSort (le := leP) (fun a b c h1 h2 => by
      unfold leP at *
      simp only [decide_eq_true_iff] at *
      exact List.le_trans h1 h2) (fun a b => by
      unfold leP
      rcases List.le_total a.1.data.toList b.1.data.toList with h | h <;> simp [h]) (ls.zip ar)
    exact this.imp fun {a b} h => by unfold leP at h; simpa [key] using h
  rw [recT_eq h' ((ls.zip ar).mergeSort leP) ((List.mergeSort_perm _ _).trans hp.symm) hs]
  unfold recT
  rw [if_pos h]
theorem rot_zip (ls : List ByteArray) (ar : List S26) (h : ls.length = ar.length) (n : Nat) : ((ls.drop n ++ ls.take n).zip (ar.drop n ++ ar.take n)).Perm (ls.zip ar) := by
  rw [List.zip_append (by simp [h])]
  have : ls.zip ar = (ls.take n).zip (ar.take n) ++ (ls.drop n).zip (ar.drop n) := by
    rw [← List.zip_append (by simp [h]), List.take_append_drop, List.take_append_drop]
  rw [this]
  exact List.perm_append_comm
theorem recT_rot (ls : List ByteArray) (ar : List S26) (h : ls.length = ar.length) (n : Nat) : recT (ls.drop n ++ ls.take n) (ar.drop n ++ ar.take n) = recT ls ar :=
  recT_perm h (by simp [h]) (rot_zip ls ar h n)
theorem recT_len {ls : List ByteArray} {ar : List S26} {r : S26} (h : recT ls ar = (r, true)) : ls.length = ar.length := by
  unfold recT at h
  split at h
  · assumption
  · cases h
theorem place_at (l : List ByteArray) (s : ByteArray) : ∀ (i j : Nat) (hj : j < l.length), l[j] = s → (∀ (k : Nat) (hk : k < l.length), k < j → l[k] ≠ s) → placeS s l i = ((i + j : Nat) : Int) := by
  induction l with
  | nil => intro i j hj; simp at hj
  | cons x l ih =>
    intro i j hj he hn
    rw [placeS]
    cases j with
    | zero => rw [if_pos (eqB_iff.2 (by simpa using he))]; rfl
    | succ j =>
      have hx : ¬ x = s := hn 0 (by simp) (Nat.succ_pos _)
      rw [if_neg (fun h => hx (eqB_iff.1 h)), ih (i + 1) j (by simpa using hj) (by simpa using he) (fun k hk hlt => hn (k + 1) (by simpa using hk) (by omega))]
      congr 1
      omega
theorem field_of_rec {ls : List ByteArray} {ar : List S26} {r : S26} (h : recT ls ar = (r, true)) (i : Nat) (hi : i < ls.length) (hi2 : i < ar.length) : fieldT r ls[i] = (ar[i], true) := by
  have hl := recT_len h
  unfold recT at h
  rw [if_pos hl] at h
  have hp : ((ls.zip ar).mergeSort leP).Perm (ls.zip ar) := List.mergeSort_perm _ _
  generalize (ls.zip ar).mergeSort leP = ps at h hp
  unfold recOf at h
  split at h
  · rename_i hr
    rw [bl_key] at hr
    have hlt := rise_pair hr
    injection h with h
    subst h
    have hz : i < (ls.zip ar).length := by simp [hl]; omega
    have hm : (ls[i], ar[i]) ∈ ps := hp.symm.subset (by
      have : (ls.zip ar)[i] = (ls[i], ar[i]) := List.getElem_zip
      rw [← this]
      exact List.getElem_mem hz)
    obtain ⟨j, hj, he⟩ := List.mem_iff_getElem.1 hm
    have hpl : placeS ls[i] (ps.map Prod.fst) 0 = ((0 + j : Nat) : Int) := place_at _ _ 0 j (by simpa using hj) (by simp [he]) (fun k hk hkj e => by
      have hk' : k < ps.length := by simpa using hk
      have h1 := (List.pairwise_iff_getElem.1 hlt) k j hk' hj hkj
      have h2 : key ps[k] = key ps[j] := by
        unfold key
        rw [List.getElem_map] at e
        rw [e, he]
      rw [h2] at h1
      exact List.lt_irrefl _ h1)
    unfold fieldT
    dsimp only
    rw [hpl, if_pos ⟨rfl, by omega, by simp; omega⟩]
    simp [List.getD_eq_getElem?_getD, List.getElem?_eq_getElem hj, he]
  · cases h
end Go.Proofs.Ytkeeknlfommieaa.PF
namespace Go.Proofs.Ytkeeknlfommieaa.PF
open Go.RowKit Go.Shelf Go.Proofs.YtkeeknlfommieaaW.PrintWords Go.Proofs.YtkeeknlfommieaaW.PrintLast Go.Proofs.YtkeeknlfommieaaW.PrintMore

theorem news_takeC {w W : World} (hb : Below w.heap.size w W) {ad : Addr} {xs : List Value} {size n : Nat} (hl : xs.length = n * size) (hc : ∀ j u, xs[j]? = some u → w.cell? (ad.add j) = some u) (h1 : ∀ u ∈ xs, u.oneCell' = true) (q c : Nat) (hq : q ≤ n) : News W size (.slice (some ad) q c) q (xs.take (q * size)) := by
  refine .inr ⟨_, _, rfl, ?_, fun u hu => h1 u (List.mem_of_mem_take hu), fun j u hj => ?_⟩
  · rw [List.length_take, hl]; exact Nat.min_eq_left (Nat.mul_le_mul_right _ hq)
  · rw [List.getElem?_take] at hj
    split at hj
    · have := hc j u hj
      exact (hb.cell (World.block_lt_of_cell? _ _ this)).trans this
    · cases hj
theorem news_dropC {w W : World} (hb : Below w.heap.size w W) {ad : Addr} {xs : List Value} {size n : Nat} (hl : xs.length = n * size) (hc : ∀ j u, xs[j]? = some u → w.cell? (ad.add j) = some u) (h1 : ∀ u ∈ xs, u.oneCell' = true) (q c m : Nat) (hm : m = q * size) :
    News W size (.slice (some (ad.add m)) (n - q) c) (n - q) (xs.drop (q * size)) := by
  refine .inr ⟨_, _, rfl, ?_, fun u hu => h1 u (List.mem_of_mem_drop hu), fun j u hj => ?_⟩
  · rw [List.length_drop, hl, Nat.sub_mul]
  · rw [List.getElem?_drop] at hj
    have := hc _ u hj
    rw [hm, Addr.add_add]
    exact (hb.cell (World.block_lt_of_cell? _ _ this)).trans this
theorem str_cells {w : World} {ad : Addr} {ls : List ByteArray} (h : Kd.string.C w (some ad) ls.length ls) : ∀ j u, (ls.map Value.string)[j]? = some u → w.cell? (ad.add j) = some u := by
  intro j u hj
  rw [List.getElem?_map] at hj
  obtain ⟨s, hs, rfl⟩ := Option.map_eq_some_iff.1 hj
  obtain ⟨hlt, he⟩ := List.getElem?_eq_some_iff.1 hs
  obtain ⟨ad', e, h1⟩ := elS h j hlt
  cases e
  rw [h1, he]
theorem flat_cells {w : World} {A : Option Addr} {bd : Addr} {ls : List ByteArray} {ar : List S26} {es : List FE} (h : Fields w A (some bd) ls ar es) : ∀ j u, (es.flatMap FE.enc5)[j]? = some u → w.cell? (bd.add j) = some u := by
  intro j u hj
  have hlt := (List.getElem?_eq_some_iff.1 hj).1
  have hlen : (es.flatMap FE.enc5).length = es.length * 5 := by
    clear hj hlt h
    induction es with
    | nil => rfl
    | cons e es ih => rw [List.flatMap_cons, List.length_append, ih, List.length_cons, show e.enc5.length = 5 from rfl]; omega
  have hi : j / 5 < es.length := by omega
  obtain ⟨ad', bd', _, e2, _, c0, c1, c2, c3, c4⟩ := h.cl (j / 5) hi
  cases e2
  rw [show j = j / 5 * 5 + j % 5 by omega, flat5_get es (j / 5) hi (j % 5) (by omega)] at hj
  rw [show j = j / 5 * 5 + j % 5 by omega]
  have hm : j % 5 < 5 := by omega
  generalize j % 5 = m at hj hm
  match m, hm, hj with
  | 0, _, hj => cases hj; exact c0
  | 1, _, hj => cases hj; rw [add_field _ _ _ (by omega)]; exact c1
  | 2, _, hj => cases hj; rw [add_field _ _ _ (by omega)]; exact c2
  | 3, _, hj => cases hj; rw [add_field _ _ _ (by omega)]; exact c3
  | 4, _, hj => cases hj; rw [add_field _ _ _ (by omega)]; exact c4
theorem flat_len (es : List FE) : (es.flatMap FE.enc5).length = es.length * 5 := by
  induction es with
  | nil => rfl
  | cons e es ih => rw [List.flatMap_cons, List.length_append, ih, List.length_cons, show e.enc5.length = 5 from rfl]; omega

set_option maxRecDepth 100000 in
set_option maxHeartbeats 1000000 in
/-- ty.Field once more: what it hands back reads so in the world that it was called in. -/
theorem field_pre (t : S26) (s : ByteArray) (w0 w : World) (hb0 : Below w0.heap.size w0 w) (A3 : Option Addr) (c3 : Nat) (A4 : Option Addr) (c4 : Nat) (l3 : t.f3.length ≤ c3) (g3 : Kd.string.C w0 A3 t.f3.length t.f3) (g4 : k26.C w0 A4 t.f4.length t.f4) :
    Calls Try.prog 42 #[.agg #[.int .i64 t.f0, .int .i64 t.f1, .string t.f2, .slice A3 t.f3.length c3, .slice A4 t.f4.length c4], .string s] w fun e w' => (∃ v, e = .returned (.tuple #[v, .bool (fieldT t s).2]) ∧ RT w0 v (fieldT t s).1) ∧ Below w.heap.size w w' := by
  obtain ⟨p, hp⟩ : ∃ p, placeS s t.f3 0 = p := ⟨_, rfl⟩
  have HP := Aside0.mk hp
  have HC := Aside0.mk (fun (W : World) (hb : Below w.heap.size w W) => index_calls A3 c3 t.f3 s W (Kd.C_below g3 (hb0.trans (hb.mono hb0.size))) l3)
  have HG4 := Aside0.mk g4
  have HB0 := Aside0.mk hb0
  clear l3 g3 g4 hp hb0
  have H2 := Aside0.mk (fun o o' => below_alloc (below_alloc (Below.refl w.heap.size w) o) o')
  by_cases h : t.f0 = 8 ∧ 0 ≤ p ∧ p < (t.f4.length : Int)
  · obtain ⟨h8, hp0, hp1⟩ := h
    have h8' : (t.f0 != 8) = false := by rw [bne_eq_false_iff_eq]; exact h8
    obtain ⟨j, rfl⟩ := Int.eq_ofNat_of_zero_le hp0
    have hj : j < t.f4.length := by omega
    obtain ⟨ad, B3, d3, B4, d4, e, h0, h1, h2, h3, h4, m3, f3, m4, f4⟩ := el26 HG4.out j hj
    cases e
    have HX := Aside0.mk (show fieldT t s = (t.f4[j], true) from by
      unfold fieldT; rw [HP.out, if_pos ⟨h8, hp0, hp1⟩, Int.toNat_natCast, List.getD_eq_getElem?_getD, List.getElem?_eq_getElem hj, Option.getD_some])
    have HRD := Aside0.mk (show ∀ W, Below w0.heap.size w0 W → RT W (.agg #[.int .i64 t.f4[j].f0, .int .i64 t.f4[j].f1, .string t.f4[j].f2, .slice B3 t.f4[j].f3.length d3, .slice B4 t.f4[j].f4.length d4]) t.f4[j] from fun W hb => ⟨B3, d3, B4, d4, rfl, m3, Kd.C_below f3 hb, m4, Kd.C_below f4 hb⟩)
    replace h0 := pw_cell_below HB0.out h0
    replace h1 := pw_cell_below HB0.out h1
    replace h2 := pw_cell_below HB0.out h2
    replace h3 := pw_cell_below HB0.out h3
    replace h4 := pw_cell_below HB0.out h4
    have hblk : (ad.add (j * 5)).block < w.heap.size := World.block_lt_of_cell? w _ h0
    generalize t.f4[j] = y at *
    have HLT := Aside0.mk hj
    clear h8 m3 f3 m4 f4 hp0 hj
    have hp0 : (0 : Int) ≤ (j : Int) := by omega
    go_enter Try.func42, Try.ntmps42
    go_wp2_with (go_at_call 77; refine (HC.out _ (H2.out _ _)).mono ?_; rw [HP.out]; rintro e w1 ⟨rfl, hbw⟩; obtain ⟨hcell, hfroz⟩ := bcell hbw; have HW1 := Aside0.mk ((H2.out _ _).trans (hbw.mono (by simp; omega))); have hz1 : w.heap.size + 1 < w1.heap.size := (by have h_ := hbw.size; simp only [World.size_alloc] at h_; omega); have hz0 : w.heap.size < w1.heap.size := Nat.lt_of_succ_lt hz1; have HBO := Aside0.mk (show w1.heap[w.heap.size + 1]? = some (.cells #[.int .i64 0, .int .i64 0, .string ⟨#[]⟩, .slice none 0 0, .slice none 0 0] 26 (0, 0)) from (by have h_ := blk_below (blk_new _ _) hbw; simpa using h_)); clear hbw; have e0 := pw_cell_below HW1.out h0; have e1 := pw_cell_below HW1.out h1; have e2 := pw_cell_below HW1.out h2; have e3 := pw_cell_below HW1.out h3; have e4 := pw_cell_below HW1.out h4)
    refine bodyPost_ret (results_ct rfl _ _ (w.heap.size + 1) 26 _ (0, 0) _ rfl (put5 HBO.out) Try.underlying26 rfl (by kernel_rfl)) rfl ?_
    rw [HX.out]
    exact ⟨⟨_, rfl, HRD.out _ (Below.refl _ _)⟩, below5 HW1.out (by omega)⟩
  · have HX := Aside0.mk (show fieldT t s = (z26, false) from by unfold fieldT; rw [HP.out, if_neg h])
    by_cases h8 : t.f0 = 8
    · have h8' : (t.f0 != 8) = false := by rw [bne_eq_false_iff_eq]; exact h8
      have hpp : p < 0 ∨ (0 ≤ p ∧ (t.f4.length : Int) ≤ p) := by omega
      clear h h8
      rcases hpp with hp | ⟨hp, hp2⟩
      · go_enter Try.func42, Try.ntmps42
        go_wp2_with (go_at_call 77; refine (HC.out _ (H2.out _ _)).mono ?_; rw [HP.out]; rintro e w1 ⟨rfl, hbw⟩; obtain ⟨hcell, hfroz⟩ := bcell hbw; have HW1 := Aside0.mk ((H2.out _ _).trans (hbw.mono (by simp; omega))); have hz1 : w.heap.size + 1 < w1.heap.size := (by have h_ := hbw.size; simp only [World.size_alloc] at h_; omega); have hz0 : w.heap.size < w1.heap.size := Nat.lt_of_succ_lt hz1; have HBO := Aside0.mk (show w1.heap[w.heap.size + 1]? = some (.cells #[.int .i64 0, .int .i64 0, .string ⟨#[]⟩, .slice none 0 0, .slice none 0 0] 26 (0, 0)) from (by have h_ := blk_below (blk_new _ _) hbw; simpa using h_)); clear hbw)
        (refine bodyPost_ret (results_ct rfl _ _ (w.heap.size + 1) 26 _ (0, 0) _ rfl (put5 HBO.out) Try.underlying26 rfl (by kernel_rfl)) rfl ?_; rw [HX.out]; exact ⟨⟨_, rfl, RT_z _⟩, below5 HW1.out (by omega)⟩)
      · go_enter Try.func42, Try.ntmps42
        go_wp2_with (go_at_call 77; refine (HC.out _ (H2.out _ _)).mono ?_; rw [HP.out]; rintro e w1 ⟨rfl, hbw⟩; obtain ⟨hcell, hfroz⟩ := bcell hbw; have HW1 := Aside0.mk ((H2.out _ _).trans (hbw.mono (by simp; omega))); have hz1 : w.heap.size + 1 < w1.heap.size := (by have h_ := hbw.size; simp only [World.size_alloc] at h_; omega); have hz0 : w.heap.size < w1.heap.size := Nat.lt_of_succ_lt hz1; have HBO := Aside0.mk (show w1.heap[w.heap.size + 1]? = some (.cells #[.int .i64 0, .int .i64 0, .string ⟨#[]⟩, .slice none 0 0, .slice none 0 0] 26 (0, 0)) from (by have h_ := blk_below (blk_new _ _) hbw; simpa using h_)); clear hbw)
        (refine bodyPost_ret (results_ct rfl _ _ (w.heap.size + 1) 26 _ (0, 0) _ rfl (put5 HBO.out) Try.underlying26 rfl (by kernel_rfl)) rfl ?_; rw [HX.out]; exact ⟨⟨_, rfl, RT_z _⟩, below5 HW1.out (by omega)⟩)
    · have h8' : (t.f0 != 8) = true := by rw [bne_iff_ne]; exact h8
      clear h h8
      go_enter Try.func42, Try.ntmps42
      go_wp2_with (go_at_call 77; refine (HC.out _ (H2.out _ _)).mono ?_; rw [HP.out]; rintro e w1 ⟨rfl, hbw⟩; obtain ⟨hcell, hfroz⟩ := bcell hbw; have HW1 := Aside0.mk ((H2.out _ _).trans (hbw.mono (by simp; omega))); have hz1 : w.heap.size + 1 < w1.heap.size := (by have h_ := hbw.size; simp only [World.size_alloc] at h_; omega); have hz0 : w.heap.size < w1.heap.size := Nat.lt_of_succ_lt hz1; have HBO := Aside0.mk (show w1.heap[w.heap.size + 1]? = some (.cells #[.int .i64 0, .int .i64 0, .string ⟨#[]⟩, .slice none 0 0, .slice none 0 0] 26 (0, 0)) from (by have h_ := blk_below (blk_new _ _) hbw; simpa using h_)); clear hbw)
      (refine bodyPost_ret (results_ct rfl _ _ (w.heap.size + 1) 26 _ (0, 0) _ rfl (put5 HBO.out) Try.underlying26 rfl (by kernel_rfl)) rfl ?_; rw [HX.out]; exact ⟨⟨_, rfl, RT_z _⟩, below5 HW1.out (by omega)⟩)
end Go.Proofs.Ytkeeknlfommieaa.PF
namespace Go.Proofs.Ytkeeknlfommieaa.PF
open Go.RowKit Go.Shelf Go.Proofs.YtkeeknlfommieaaW.PrintWords Go.Proofs.YtkeeknlfommieaaW.PrintLast Go.Proofs.YtkeeknlfommieaaW.PrintMore

theorem same_true {W : World} {x : S26} {A3 : Option Addr} {c3 : Nat} {A4 : Option Addr} {c4 : Nat} {B3 : Option Addr} {d3 : Nat} {B4 : Option Addr} {d4 : Nat} (h : Rd W x A3 c3 A4 c4) (k : Rd W x B3 d3 B4 d4) :
    Calls Try.prog 37 #[.agg #[.int .i64 x.f0, .int .i64 x.f1, .string x.f2, .slice A3 x.f3.length c3, .slice A4 x.f4.length c4], .agg #[.int .i64 x.f0, .int .i64 x.f1, .string x.f2, .slice B3 x.f3.length d3, .slice B4 x.f4.length d4]] W fun e w' => e = .returned (.bool true) ∧ Below W.heap.size W w' := by
  have := same_calls x x W A3 c3 A4 c4 B3 d3 B4 d4 h.l3 h.g3 h.l4 h.g4 k.l3 k.g3 k.l4 k.g4
  rw [eqB_self] at this
  exact this
theorem field_told {W0 W : World} (hb0 : Below W0.heap.size W0 W) {r x : S26} {s : ByteArray} {A3 : Option Addr} {c3 : Nat} {A4 : Option Addr} {c4 : Nat} (hf : fieldT r s = (x, true)) (h : Rd W0 r A3 c3 A4 c4) :
    Calls Try.prog 42 #[.agg #[.int .i64 r.f0, .int .i64 r.f1, .string r.f2, .slice A3 r.f3.length c3, .slice A4 r.f4.length c4], .string s] W fun e w' => (∃ X3 x3 X4 x4, e = .returned (.tuple #[.agg #[.int .i64 x.f0, .int .i64 x.f1, .string x.f2, .slice X3 x.f3.length x3, .slice X4 x.f4.length x4], .bool true]) ∧ Rd W0 x X3 x3 X4 x4) ∧ Below W.heap.size W w' := by
  have h1 := field_pre r s W0 W hb0 A3 c3 A4 c4 h.l3 h.g3 h.g4
  rw [hf] at h1
  refine h1.mono ?_
  rintro e w' ⟨⟨v, rfl, hr⟩, hb⟩
  obtain ⟨X3, x3, X4, x4, rfl, hr2⟩ := Rd.of hr
  exact ⟨⟨X3, x3, X4, x4, rfl, hr2⟩, hb⟩
theorem own_pos {w : World} {base : Nat} {e : TypeId} {size n : Nat} {v : Value} {xs : List Value} (h : w.ownsRow base e size v n xs) (hn : 0 < n) : ∃ g cap, v = .slice (some ⟨g, 0, none⟩) n cap := by
  rcases h.2 with ⟨_, h0⟩ | ⟨g, cap, cur, rfl, _⟩
  · omega
  · exact ⟨g, cap, rfl⟩
set_option maxRecDepth 100000 in
set_option maxHeartbeats 900000 in
theorem tyturned_calls (ls : List ByteArray) (ar : List S26) (kk : Nat) (hkk : kk ≤ 255) (w : World) (A : Option Addr) (c : Nat) (B : Option Addr) (d : Nat) (lc : ls.length ≤ c) (g3 : Kd.string.C w A ls.length ls) (ld : ar.length ≤ d) (g4 : k26.C w B ar.length ar) :
    Calls Try.prog 9 #[.slice A ls.length c, .slice B ar.length d, .int .u8 kk] w fun e w' => e = .returned (.bool true) ∧ Below w.heap.size w w' := by
  have HFEW := Aside0.mk (few_calls A B c d ls ar w g3 g4)
  have HREC := Aside0.mk (fun (h60 : ls.length ≤ 60) (W : World) (hb : Below w.heap.size w W) => rec_calls 60 sort_60 (by decide) A B c d ls ar W lc ld (Kd.C_below g3 hb) (Kd.C_below g4 hb) h60)
  obtain ⟨⟨r, ok⟩, hR⟩ : ∃ y, recT ls ar = y := ⟨_, rfl⟩
  rw [hR] at HREC
  have HR := Aside0.mk hR
  have HG3 := Aside0.mk g3
  have HG4 := Aside0.mk g4
  have HLC := Aside0.mk lc
  have HLD := Aside0.mk ld
  have hls := g3.2.1
  clear hR g3 g4 lc ld
  go_enter Try.func9, Try.ntmps9
  go_wp2_with (fail)
  refine HFEW.out.mono ?_
  rintro e w1 ⟨⟨b, rfl, hb60⟩, hb1⟩
  have HB60 := Aside0.mk hb60
  have HB1 := Aside0.mk hb1
  clear hb1 hb60
  cases b with
  | false =>
    go_wp2_with (go_at_call 25; refine (awake_calls _).mono ?_; rintro e w2 ⟨rfl, hb2⟩)
    go_ret
    exact ⟨rfl, HB1.out.trans (hb2.mono HB1.out.size)⟩
  | true =>
    have H60 := Aside0.mk (HB60.out rfl)
    go_wp2_with (fail)
    refine (HREC.out H60.out.1 _ HB1.out).mono ?_
    intro e w2 h2
    obtain ⟨A3, a3, A4, a4, rfl, hra, hb2⟩ := h2.open_
    dsimp only at hra
    have HB2 := Aside0.mk (HB1.out.trans (hb2.mono HB1.out.size))
    have HRA := Aside0.mk hra
    clear h2 hb2 hra
    cases ok with
    | false =>
      go_wp2_with (go_at_call 25; refine (awake_calls _).mono ?_; rintro e w3 ⟨rfl, hb3⟩)
      go_ret
      exact ⟨rfl, (HB2.out.trans ((below_alloc (Below.refl w2.heap.size w2) _).mono HB2.out.size)).trans (hb3.mono (by rw [World.size_alloc]; exact Nat.le_succ_of_le HB2.out.size))⟩
    | true =>
      by_cases h0 : ls.length = 0
      · have h0' : ((ls.length : Int) == 0) = true := by simp [h0]
        have H0 := Aside0.mk h0
        clear h0
        go_wp2_with (go_at_call 25; refine (awake_calls _).mono ?_; rintro e w3 ⟨rfl, hb3⟩)
        go_ret
        exact ⟨rfl, (HB2.out.trans ((below_alloc (Below.refl w2.heap.size w2) _).mono HB2.out.size)).trans (hb3.mono (by rw [World.size_alloc]; exact Nat.le_succ_of_le HB2.out.size))⟩
      · have h0' : ((ls.length : Int) == 0) = false := by simp [h0]
        have h0z : ¬ (ls.length : Int) = 0 := by omega
        have hpos : 0 < ls.length := by omega
        have HA2 := Aside0.mk (below_alloc (Below.refl w2.heap.size w2) (.cells #[.int .i64 r.f0, .int .i64 r.f1, .string r.f2, .slice A3 r.f3.length a3, .slice A4 r.f4.length a4] 26))
        have HBA := Aside0.mk (show BoxT (w2.alloc (.cells #[.int .i64 r.f0, .int .i64 r.f1, .string r.f2, .slice A3 r.f3.length a3, .slice A4 r.f4.length a4] 26)) w2.heap.size r A3 a3 A4 a4 from blk_new _ _)
        have HPOS := Aside0.mk hpos
        have hkk0 : (0 : Int) ≤ (kk : Int) := by omega
        have hkk1 : (kk : Int) ≤ 255 := by omega
        clear h0
        go_upto_region 7 with (fail)
        have HB3 := Aside0.mk (HB2.out.trans (HA2.out.mono HB2.out.size))
        obtain ⟨n, hn, hnl⟩ : ∃ n : Nat, (kk : Int) % (ls.length : Int) = (n : Int) ∧ n < ls.length := ⟨kk % ls.length, by simp, Nat.mod_lt _ hpos⟩
        rw [hn]
        clear hn
        have hlen := recT_len HR.out
        obtain ⟨es, hf⟩ := fields_of HG3.out HG4.out hlen
        obtain ⟨ad, rfl⟩ : ∃ ad, A = some ad := by
          obtain ⟨ad, h, _⟩ := elS HG3.out 0 hpos
          exact ⟨ad, h⟩
        obtain ⟨bd, rfl⟩ : ∃ bd, B = some bd := by
          obtain ⟨_, bd, _, h, _⟩ := hf.cl 0 (by rw [hf.len.1]; exact hpos)
          exact ⟨bd, h⟩
        have HF := Aside0.mk hf
        have HNL := Aside0.mk hnl
        have HLEN := Aside0.mk hlen
        have HRA3 := Aside0.mk (HRA.out.below HA2.out)
        clear HBA HRA HFEW
        have HBA := Aside0.mk (show BoxT (w2.alloc (.cells #[.int .i64 r.f0, .int .i64 r.f1, .string r.f2, .slice A3 r.f3.length a3, .slice A4 r.f4.length a4] 26)) w2.heap.size r A3 a3 A4 a4 from blk_new _ _)
        clear HA2
        generalize w2.alloc (.cells #[.int .i64 r.f0, .int .i64 r.f1, .string r.f2, .slice A3 r.f3.length a3, .slice A4 r.f4.length a4] 26) = W3 at *
        generalize w2.heap.size = ga at *
        have hnc : (n : Int) ≤ (c : Int) := by have := HLC.out; omega
        have hnd : (n : Int) ≤ (d : Int) := by have := HLD.out; omega
        have hn0 : (0 : Int) ≤ (n : Int) := by omega
        have hcn : ¬ c = n := by have := HLC.out; omega
        have hdn : ¬ d = n := by have := HLD.out; omega
        have hnl1 : (n : Int) ≤ (ls.length : Int) := by omega
        have hnl2 : (n : Int) ≤ (ar.length : Int) := by omega
        have hlc : (ls.length : Int) ≤ (c : Int) := by have := HLC.out; omega
        have hld : (ar.length : Int) ≤ (d : Int) := by have := HLD.out; omega
        have HLX := Aside0.mk (show (ls.map Value.string).length = ls.length * 1 from by simp)
        have HLY := Aside0.mk (show (es.flatMap FE.enc5).length = ar.length * 5 from by rw [flat_len, HF.out.len.2])
        have HWa := HB3
        clear hf hlen hnl hpos
        go_wp2_with (fail)
        go_region_held3 (fun W' => Below W3.heap.size W3 W') (first | ((repeat (first | (with_reducible exact Below.refl _ _) | (with_reducible exact Aaa.out.low) | (with_reducible exact Aab.out.low) | (with_reducible refine below_alloc ?_ _) | (with_reducible refine below_drew ?_))); done) | fail) (first | (refine step_app (w0 := W3) W3.heap.size (by rfl) (.tmp 41) (.tmp 44) 23 9 (.string ⟨#[]⟩) 1 16 (by rfl) Try.underlying23 info9 (by rfl) (by decide) (by decide) (.slice (some ⟨_, 0, none⟩) 0 0) (.slice (some (ad.add n)) (ls.length - n) (c - n)) 0 (ls.length - n) [] ((ls.map Value.string).drop (n * 1)) (by rfl) (by rfl) ?HO ?HN ?HB (by rfl) ?hl ?_; (case HO => refine own_empty ?_ (Nat.le_refl _); (repeat (first | (with_reducible refine blk_newR _ _ ?_; simp only [World.size_alloc, size_drewR]; done) | (with_reducible refine blk_newR _ _ rfl) | (with_reducible refine blk_alloc ?_ _) | (with_reducible refine blk_drew ?_)))); (case HN => refine news_dropC (w := w) ?_ HLX.out (str_cells HG3.out) (one_strs _) n _ _ (by omega); (· refine HWa.out.trans (Below.mono ?_ HWa.out.size); (repeat (first | (with_reducible exact Below.refl _ _) | (with_reducible refine below_alloc ?_ _) | (with_reducible refine below_drew ?_))))); (case HB => (repeat (first | (with_reducible exact Below.refl _ _) | (with_reducible refine below_alloc ?_ _) | (with_reducible refine below_drew ?_)))); (case hl => (have := H60.out; have := HNL.out; have := HLEN.out; omega)); intro vaa waa aaa; have Aaa := Aside0.mk aaa; clear aaa) | (refine step_app (w0 := W3) W3.heap.size (by rfl) (.tmp 45) (.tmp 48) 23 9 (.string ⟨#[]⟩) 1 16 (by rfl) Try.underlying23 info9 (by rfl) (by decide) (by decide) vaa (.slice (some ad) n c) (0 + (ls.length - n)) n ([] ++ (ls.map Value.string).drop (n * 1)) ((ls.map Value.string).take (n * 1)) (by rfl) (by rfl) ?HO ?HN ?HB (by rfl) ?hl ?_; (case HO => exact Aaa.out.own); (case HN => refine news_takeC (w := w) ?_ HLX.out (str_cells HG3.out) (one_strs _) n _ ?_; (· refine HWa.out.trans (Below.mono ?_ HWa.out.size); (repeat (first | (with_reducible exact Below.refl _ _) | (with_reducible exact Aaa.out.low) | (with_reducible refine below_alloc ?_ _) | (with_reducible refine below_drew ?_)))); (· have := HNL.out; have := HLEN.out; omega)); (case HB => (repeat (first | (with_reducible exact Below.refl _ _) | (with_reducible exact Aaa.out.low) | (with_reducible refine below_alloc ?_ _) | (with_reducible refine below_drew ?_)))); (case hl => (have := H60.out; have := HNL.out; have := HLEN.out; omega)); intro vab wab aab; have Aab := Aside0.mk aab; clear aab) | fail)
        have HWb := Aside0.mk (HB3.out.trans (Aab.out.low.mono HB3.out.size))
        go_wp2_with (fail)
        go_region_held3 (fun W' => Below wab.heap.size wab W') (first | ((repeat (first | (with_reducible exact Below.refl _ _) | (with_reducible exact Aba.out.low) | (with_reducible exact Abb.out.low) | (with_reducible refine below_alloc ?_ _) | (with_reducible refine below_drew ?_))); done) | fail) (first | (refine step_app (w0 := wab) wab.heap.size (by rfl) (.tmp 50) (.tmp 53) 24 26 (.agg #[(.int .i64 0), (.int .i64 0), (.string ⟨#[]⟩), (.slice none 0 0), (.slice none 0 0)]) 5 80 (by rfl) Try.underlying24 info26 (by rfl) (by decide) (by decide) (.slice (some ⟨_, 0, none⟩) 0 0) (.slice (some (bd.add (n * 5))) (ar.length - n) (d - n)) 0 (ar.length - n) [] ((es.flatMap FE.enc5).drop (n * 5)) (by rfl) (by rfl) ?HO ?HN ?HB (by rfl) ?hl ?_; (case HO => refine own_empty ?_ (Nat.le_refl _); (repeat (first | (with_reducible refine blk_newR _ _ ?_; simp only [World.size_alloc, size_drewR]; done) | (with_reducible refine blk_newR _ _ rfl) | (with_reducible refine blk_alloc ?_ _) | (with_reducible refine blk_drew ?_)))); (case HN => refine news_dropC (w := w) ?_ HLY.out (flat_cells HF.out) (one_enc5 es) n _ _ (by omega); (· refine HWb.out.trans (Below.mono ?_ HWb.out.size); (repeat (first | (with_reducible exact Below.refl _ _) | (with_reducible refine below_alloc ?_ _) | (with_reducible refine below_drew ?_))))); (case HB => (repeat (first | (with_reducible exact Below.refl _ _) | (with_reducible refine below_alloc ?_ _) | (with_reducible refine below_drew ?_)))); (case hl => (have := H60.out; have := HNL.out; have := HLEN.out; omega)); intro vba wba aba; have Aba := Aside0.mk aba; clear aba) | (refine step_app (w0 := wab) wab.heap.size (by rfl) (.tmp 54) (.tmp 57) 24 26 (.agg #[(.int .i64 0), (.int .i64 0), (.string ⟨#[]⟩), (.slice none 0 0), (.slice none 0 0)]) 5 80 (by rfl) Try.underlying24 info26 (by rfl) (by decide) (by decide) vba (.slice (some bd) n d) (0 + (ar.length - n)) n ([] ++ (es.flatMap FE.enc5).drop (n * 5)) ((es.flatMap FE.enc5).take (n * 5)) (by rfl) (by rfl) ?HO ?HN ?HB (by rfl) ?hl ?_; (case HO => exact Aba.out.own); (case HN => refine news_takeC (w := w) ?_ HLY.out (flat_cells HF.out) (one_enc5 es) n _ ?_; (· refine HWb.out.trans (Below.mono ?_ HWb.out.size); (repeat (first | (with_reducible exact Below.refl _ _) | (with_reducible exact Aba.out.low) | (with_reducible refine below_alloc ?_ _) | (with_reducible refine below_drew ?_)))); (· have := HNL.out; have := HLEN.out; omega)); (case HB => (repeat (first | (with_reducible exact Below.refl _ _) | (with_reducible exact Aba.out.low) | (with_reducible refine below_alloc ?_ _) | (with_reducible refine below_drew ?_)))); (case hl => (have := H60.out; have := HNL.out; have := HLEN.out; omega)); intro vbb wbb abb; have Abb := Aside0.mk abb; clear abb) | fail)
        have hml : (es.drop n ++ es.take n).length = ar.length := by rw [List.length_append, List.length_drop, List.length_take, HF.out.len.2]; have := HNL.out; have := HLEN.out; omega
        have hll : (ls.drop n ++ ls.take n).length = ls.length := by rw [List.length_append, List.length_drop, List.length_take]; have := HNL.out; omega
        have ho1 := Aab.out.own
        rw [show 0 + (ls.length - n) + n = ls.length by have := HNL.out; omega, show [] ++ ((ls.map Value.string).drop (n * 1)) ++ ((ls.map Value.string).take (n * 1)) = (ls.drop n ++ ls.take n).map Value.string by simp [List.map_drop, List.map_take]] at ho1
        have ho2 := Abb.out.own
        rw [show 0 + (ar.length - n) + n = ar.length by have := HNL.out; have := HLEN.out; omega, flat_drop, flat_take, show [] ++ ((es.drop n).flatMap FE.enc5) ++ ((es.take n).flatMap FE.enc5) = (es.drop n ++ es.take n).flatMap FE.enc5 by simp] at ho2
        obtain ⟨A5, c5, hv5, h5, hC5⟩ := cS_of_own (ho1.kept (grownBy_below Abb.out.low) (Classical.em _))
        have HWc := Aside0.mk (HWb.out.trans (Abb.out.low.mono HWb.out.size))
        obtain ⟨A6, c6, hv6, h6, hC6⟩ := c26_of_own ho2 hml (by have := H60.out.2; omega) (fun e he => (HF.out.rt e (by
          rcases List.mem_append.1 he with h | h
          · exact List.mem_of_mem_drop h
          · exact List.mem_of_mem_take h)).below HWc.out)
        have hml2 : (ar.drop n ++ ar.take n).length = ar.length := by rw [List.length_append, List.length_drop, List.length_take]; have := HNL.out; have := HLEN.out; omega
        rw [List.map_append, List.map_drop, List.map_take, HF.out.x] at hC6
        have hrec2 := rec_calls 60 sort_60 (by decide) A5 A6 c5 c6 (ls.drop n ++ ls.take n) (ar.drop n ++ ar.take n) wbb (by rw [hll]; exact h5) (by rw [hml2]; exact h6) (by rw [hll]; exact hC5) (by rw [hml2]; exact hC6) (by rw [hll]; exact H60.out.1)
        rw [hll, hml2, recT_rot _ _ HLEN.out, HR.out] at hrec2
        have HREC2 := Aside0.mk hrec2
        subst hv5
        subst hv6
        clear hml hll ho1 ho2 h5 hC5 h6 hC6 hml2 hrec2
        have HLWb := Aside0.mk (Aab.out.low.trans (Abb.out.low.mono Aab.out.low.size))
        have HBAb := Aside0.mk (HBA.out.below HLWb.out)
        have HRAb := Aside0.mk (HRA3.out.below HLWb.out)
        clear Aab Abb Aaa Aba HBA HRA3 HB3
        go_wp2_with (fail)
        refine HREC2.out.mono ?_
        intro e w7 h7
        obtain ⟨B3, b3, B4, b4, rfl, hrb, hb7⟩ := ResTy.open_ (y := (r, true)) h7
        dsimp only at hrb
        have HB7 := Aside0.mk (HWc.out.trans (hb7.mono HWc.out.size))
        have HBA7 := Aside0.mk (HBAb.out.below hb7)
        have HRA7 := Aside0.mk (HRAb.out.below hb7)
        have HRB7 := Aside0.mk hrb
        clear h7 hb7 hrb HREC2 HBAb HRAb
        have HA7 := Aside0.mk (below_alloc (Below.refl w7.heap.size w7) (.cells #[.int .i64 r.f0, .int .i64 r.f1, .string r.f2, .slice B3 r.f3.length b3, .slice B4 r.f4.length b4] 26))
        have hga : ga < w7.heap.size := blk_lt HBA7.out
        obtain ⟨k0, k1, k2, k3, k4⟩ := cells5 HBA7.out
        go_wp2_with (fail)
        refine (same_true (HRA7.out.below HA7.out) (HRB7.out.below HA7.out)).mono ?_
        rintro e w8 ⟨rfl, hb8⟩
        have HB8 := Aside0.mk ((HB7.out.trans (HA7.out.mono HB7.out.size)).trans (hb8.mono (Nat.le_trans HB7.out.size HA7.out.size)))
        have HBA8 := Aside0.mk ((HBA7.out.below HA7.out).below hb8)
        have HRA8 := Aside0.mk ((HRA7.out.below HA7.out).below hb8)
        clear hb8 HRA7 HBA7 k0 k1 k2 k3 k4 hga HA7 HRB7
        go_wp2_with (fail)
        go_loopg [14] ls.length (fun gk i wr => ∃ q : Nat, i = .int .i64 q ∧ Aside0 (gk + q = ls.length) ∧ Aside0 (Below w8.heap.size w8 wr))
        case atStart => exact ⟨0, rfl, ⟨rfl⟩, ⟨Below.refl _ _⟩⟩
        case round =>
          obtain ⟨q, rfl, HQK, HB9⟩ := hrel
          obtain ⟨wo, hwo⟩ : ∃ x, x = wr := ⟨_, rfl⟩
          subst hwo
          by_cases hq : q < ls.length
          · have hqZ : (q : Int) < (ls.length : Int) := by omega
            have hqZ2 : (q : Int) < (ar.length : Int) := by have := HLEN.out; omega
            have hq2 : q < es.length := by rw [HF.out.len.1]; exact hq
            have HBW := Aside0.mk (HB8.out.trans (HB9.out.mono HB8.out.size))
            obtain ⟨ad', bd', e1, e2, h0, h1, h2, h3, h4, h5⟩ := HF.out.cl q hq2
            cases e1
            cases e2
            have hfr := field_of_rec HR.out q hq (by rw [← HLEN.out]; exact hq)
            rw [show ls[q] = es[q].l from by simp only [← HF.out.l, List.getElem_map], show ar[q]'(by rw [← HLEN.out]; exact hq) = es[q].v.x from by simp only [← HF.out.x, List.getElem_map]] at hfr
            have hrt := HF.out.rt _ (List.getElem_mem hq2)
            generalize es[q] = e at *
            have HRE := Aside0.mk hrt
            have HBA9 := Aside0.mk (HBA8.out.below HB9.out)
            have HRA9 := Aside0.mk (HRA8.out.below HB9.out)
            have HFD := Aside0.mk (fun (W : World) (hb : Below wo.heap.size wo W) => field_told hb hfr HRA9.out)
            have q0 := pw_cell_below HBW.out h0
            have q1 := pw_cell_below HBW.out h1
            have q2 := pw_cell_below HBW.out h2
            have q3 := pw_cell_below HBW.out h3
            have q4 := pw_cell_below HBW.out h4
            have q5 := pw_cell_below HBW.out h5
            have HQ := Aside0.mk (And.intro q0 (And.intro q1 (And.intro q2 (And.intro q3 (And.intro q4 q5)))))
            have HLT := Aside0.mk hq
            have HSof := Aside0.mk (show ∀ W', Below wo.heap.size wo W' → (W'.cell? ⟨ga, 0, none⟩ = some (.int .i64 r.f0) ∧ W'.cell? ⟨ga, 1, none⟩ = some (.int .i64 r.f1) ∧ W'.cell? ⟨ga, 2, none⟩ = some (.string r.f2) ∧ W'.cell? ⟨ga, 3, none⟩ = some (.slice A3 r.f3.length a3) ∧ W'.cell? ⟨ga, 4, none⟩ = some (.slice A4 r.f4.length a4) ∧ W'.cell? (ad.add q) = some (.string e.l) ∧ Below wo.heap.size wo W') from fun W' hb => by
              obtain ⟨a0, a1, a2, a3, a4⟩ := cells5 (HBA9.out.below hb)
              exact ⟨a0, a1, a2, a3, a4, (hb.cell (World.block_lt_of_cell? _ _ HQ.out.1)).trans HQ.out.1, hb⟩)
            clear h0 h1 h2 h3 h4 h5 q0 q1 q2 q3 q4 q5 hq hq2 hfr hrt
            go_upto_region 15 with (fail)
            go_cut [14, 15, 16] (fun v14 v15 v16 w15 => ∃ (bt : Nat) (X3 : Option Addr) (x3 : Nat) (X4 : Option Addr) (x4 : Nat), v14 = .int .i64 q ∧ v15 = .pointer (some ⟨bt, 0, none⟩) ∧ v16 = .bool true ∧ Aside0 (BoxT w15 bt e.v.x X3 x3 X4 x4) ∧ Aside0 (Rd w15 e.v.x X3 x3 X4 x4) ∧ Aside0 (Below wo.heap.size wo w15))
            case first =>
              go_wp2_with (fail)
              go_region_held3 (fun W' => W'.cell? ⟨ga, 0, none⟩ = some (.int .i64 r.f0) ∧ W'.cell? ⟨ga, 1, none⟩ = some (.int .i64 r.f1) ∧ W'.cell? ⟨ga, 2, none⟩ = some (.string r.f2) ∧ W'.cell? ⟨ga, 3, none⟩ = some (.slice A3 r.f3.length a3) ∧ W'.cell? ⟨ga, 4, none⟩ = some (.slice A4 r.f4.length a4) ∧ W'.cell? (ad.add q) = some (.string e.l) ∧ Below wo.heap.size wo W') (first | (refine HSof.out _ ?_; (repeat (first | (with_reducible refine below5 ?_ (Nat.le_refl _)) | (with_reducible exact Below.refl _ _) | (with_reducible exact HBf.out) | (with_reducible refine below_alloc ?_ _) | (with_reducible refine below_drew ?_))); done) | fail) (first | (go_at_call 42; with_reducible refine (HFD.out _ ?hb).mono ?_; (case hb => (repeat (first | (with_reducible refine below5 ?_ (Nat.le_refl _)) | (with_reducible exact Below.refl _ _) | (with_reducible exact HBf.out) | (with_reducible refine below_alloc ?_ _) | (with_reducible refine below_drew ?_)))); rintro e1 wf ⟨⟨X3, x3, X4, x4, rfl, hx⟩, hbf⟩; have HX := Aside0.mk hx; clear hx; have hzf := hbf.size; obtain ⟨hcell, hfroz⟩ := bcell hbf; have HBf0 := Aside0.mk hbf; have HBf := Aside0.mk (show Below wo.heap.size wo wf from Below.trans (by (repeat (first | (with_reducible refine below5 ?_ (Nat.le_refl _)) | (with_reducible exact Below.refl _ _) | (with_reducible exact HBf.out) | (with_reducible refine below_alloc ?_ _) | (with_reducible refine below_drew ?_)))) (hbf.mono (by first | exact Nat.le_refl _ | (simp only [World.size_alloc, size_drewR]; omega) | (simp only [size_drewR]; omega)))); try simp only [World.size_alloc, size_drewR] at hzf) | fail)
              all_goals
                go_wp2_with fail
                go_meet
                case rel =>
                  refine ⟨_, X3, x3, X4, x4, rfl, rfl, rfl, ⟨?_⟩, ⟨?_⟩, ⟨?_⟩⟩
                  · first
                    | (unfold BoxT; with_reducible exact blk_new _ _)
                    | (unfold BoxT; with_reducible refine put5 (a0 := .int .i64 0) (a1 := .int .i64 0) (a2 := .string ⟨#[]⟩) (a3 := .slice none 0 0) (a4 := .slice none 0 0) ?_; with_reducible exact blk_below (blk_drew (blk_newR _ _ rfl)) HBf0.out)
                  · first
                    | (with_reducible exact HX.out.below (below_alloc HBf.out _))
                    | (with_reducible exact HX.out.below (below5 HBf.out (Nat.le_refl _)))
                  · first
                    | (with_reducible exact below_alloc HBf.out _)
                    | (with_reducible exact below5 HBf.out (Nat.le_refl _))
            case rest =>
              have hrel2 : ∃ (bt : Nat) (X3 : Option Addr) (x3 : Nat) (X4 : Option Addr) (x4 : Nat), u14 = .int .i64 q ∧ u15 = .pointer (some ⟨bt, 0, none⟩) ∧ u16 = .bool true ∧ Aside0 (BoxT wc bt e.v.x X3 x3 X4 x4) ∧ Aside0 (Rd wc e.v.x X3 x3 X4 x4) ∧ Aside0 (Below wo.heap.size wo wc) := by assumption
              obtain ⟨bt, X3, x3, X4, x4, rfl, rfl, rfl, HBX, HRX, HBC⟩ := hrel2
              have HRE2 := Aside0.mk (show Rd w e.v.x e.v.A3 e.v.c3 e.v.A4 e.v.c4 from by
                obtain ⟨A3', c3', A4', c4', he, l3, g3, l4, g4⟩ := HRE.out
                simp [NV.enc] at he
                obtain ⟨⟨rfl, rfl⟩, rfl, rfl⟩ := he
                exact ⟨l3, g3, l4, g4⟩)
              have HRE3 := Aside0.mk (HRE2.out.below (HBW.out.trans (HBC.out.mono HBW.out.size)))
              obtain ⟨k0, k1, k2, k3, k4⟩ := cells5 HBX.out
              have b0 := BelowOf.cell k0
              have b1 := BelowOf.cell k1
              have b2 := BelowOf.cell k2
              have b3' := BelowOf.cell k3
              have b4' := BelowOf.cell k4
              have p1 := BelowOf.cell (pw_cell_below HBC.out HQ.out.2.1)
              have p2 := BelowOf.cell (pw_cell_below HBC.out HQ.out.2.2.1)
              have p3 := BelowOf.cell (pw_cell_below HBC.out HQ.out.2.2.2.1)
              have p4 := BelowOf.cell (pw_cell_below HBC.out HQ.out.2.2.2.2.1)
              have p5 := BelowOf.cell (pw_cell_below HBC.out HQ.out.2.2.2.2.2)
              have HSM := Aside0.mk (fun (p : BelowOf wc) => BelowOf.calls (rsame_true (HRX.out.below p.h) (HRE3.out.below p.h)))
              clear k0 k1 k2 k3 k4
              go_wp2_with (fail)
              refine wp_region_below wc (Below.refl _ _) (by kernel_rfl) (by kernel_rfl) ?_
              repeat (first | go_big_quiet_step ((go_at_call 38; exact HSM.out _)) | quiet_step ((go_at_call 38; exact HSM.out _)))
              refine wpQuiet_nil ?_
              intro _ hw'
              obtain ⟨py, hw''⟩ := hw'
              subst hw''
              go_wp2
              go_roundg (gk - 1)
              case measure => have := HQK.out; have := HLT.out; omega
              case rel => exact ⟨q + 1, by go_num, ⟨by have := HQK.out; have := HLT.out; omega⟩, ⟨HB9.out.trans ((HBC.out.trans (py.h.mono HBC.out.size)).mono HB9.out.size)⟩⟩
          · have hqZ : ¬ (q : Int) < (ls.length : Int) := by omega
            clear hq
            go_wp2_with (go_at_call 25; refine (awake_calls _).mono ?_; rintro e wa ⟨rfl, hba⟩)
            go_ret
            exact ⟨rfl, (HB8.out.trans (HB9.out.mono HB8.out.size)).trans (hba.mono (Nat.le_trans HB8.out.size HB9.out.size))⟩
end Go.Proofs.Ytkeeknlfommieaa.PF
namespace Go.Proofs.Ytkeeknlfommieaa.PF
open Go.ChangeShapes Go.WideShapes Go.ChangeAt
open Go.RowKit Go.Proofs.YtkeeknlfommieaaW.PrintWords Go.Proofs.YtkeeknlfommieaaW.PrintLast Go.Proofs.YtkeeknlfommieaaW.PrintMore

theorem c_of {α : Type} (d : Kd α) {W : World} {ad : Addr} {n : Nat} (hn : n ≤ 9223372036854775807) (h : ∀ i, i < n → ∃ p cs, cs.length = d.sz ∧ d.K W p cs ∧ ∀ j u, cs[j]? = some u → W.cell? (ad.add (i * d.sz + j)) = some u) :
    ∃ xs : List α, xs.length = n ∧ d.C W (some ad) n xs := by
  have hf : ∀ i : Fin n, ∃ p cs, cs.length = d.sz ∧ d.K W p cs ∧ ∀ j u, cs[j]? = some u → W.cell? (ad.add (i.val * d.sz + j)) = some u := fun i => h i.val i.isLt
  have hf2 := fun i => Classical.choose_spec (hf i)
  obtain ⟨f, hff⟩ : ∃ f : Fin n → α, ∀ i, f i = Classical.choose (hf i) := ⟨_, fun _ => rfl⟩
  simp only [← hff] at hf2
  refine ⟨List.ofFn f, by simp, by simp, hn, fun _ => ⟨ad, rfl, fun j p hj => ?_⟩⟩
  obtain ⟨hjl, hp⟩ := List.getElem?_eq_some_iff.1 hj
  have hjl' : j < n := by simpa using hjl
  obtain ⟨cs, h1, h2, h3⟩ := hf2 ⟨j, hjl'⟩
  simp at hp
  subst hp
  exact ⟨cs, h1, h2, h3⟩

variable {H : Type} {enc : TypeId × Value → H}
theorem openS {W : World} : ∀ {fuel : Nat} {cs : List Value} {x : DataW H × List MemPlace}, DataW.trod enc Try.prog W 0 (fun _ => true) true fuel 23 cs = some x →
    ∃ A c ls, cs = [.slice A ls.length c] ∧ ls.length ≤ c ∧ Kd.string.C W A ls.length ls := by
  intro fuel cs x h
  rcases DataW.trod_slice Try.underlying23 h with ⟨rfl, _⟩ | ⟨a, len, cap, elems, rest, n, _, rfl, _, _, hlc, hcap, hel, hget, _⟩
  · exact ⟨none, 0, [], rfl, Nat.le_refl _, Kd.C_nil _ _⟩
  · obtain ⟨xs, hxl, hC⟩ := c_of Kd.string (W := W) (ad := a) (n := len) (by simp only [maxLen] at hcap; omega) (by
      intro i hi
      have hg := hget i hi
      rw [List.getElem?_eq_getElem (by omega)] at hg
      obtain ⟨cs, hcs, ht⟩ := Option.bind_eq_some_iff.1 hg
      have hsz : Try.prog.cellsOf 9 = 1 := by kernel_rfl
      rw [hsz] at hcs
      obtain ⟨_, hl, hc⟩ := World.cells?_some hcs
      obtain ⟨s, rfl, _, _⟩ := DataW.trod_string Try.underlying9 ht
      refine ⟨s, [.string s], rfl, rfl, fun j u hu => ?_⟩
      have hj : j < 1 := (List.getElem?_eq_some_iff.1 hu).1
      have h_ := hc j hj
      rw [Addr.add_add] at h_
      exact h_.trans hu)
    subst hxl
    exact ⟨some a, cap, xs, rfl, hlc, hC⟩
theorem list5 {α : Type} {l : List α} (h : l.length = 5) : ∃ a b c d e, l = [a, b, c, d, e] := by
  match l, h with
  | [a, b, c, d, e], _ => exact ⟨a, b, c, d, e, rfl⟩
theorem open26 {W : World} : ∀ (fuel : Nat) {cs : List Value} {x : DataW H × List MemPlace}, DataW.trod enc Try.prog W 0 (fun _ => true) true fuel 26 cs = some x → ∃ y, cs.length = 5 ∧ k26.K W y cs := by
  intro fuel
  induction fuel using Nat.strongRecOn with
  | ind fuel ih =>
  intro cs x h
  obtain ⟨xs, n, rfl, _, hlen, hxl0, hf⟩ := DataW.trod_struct Try.underlying26 h
  have h5 : Try.prog.cellsOf 26 = 5 := by kernel_rfl
  have h3 : Try.prog.cellsOf 3 = 1 := by kernel_rfl
  have h9 : Try.prog.cellsOf 9 = 1 := by kernel_rfl
  have h23 : Try.prog.cellsOf 23 = 1 := by kernel_rfl
  have h24 : Try.prog.cellsOf 24 = 1 := by kernel_rfl
  rw [h5] at hlen
  obtain ⟨v0, v1, v2, v3, v4, rfl⟩ := list5 hlen
  have hxl : xs.length = 5 := hxl0
  have get : ∀ i (hi : i < 5), ∃ y, xs[i]? = some y := fun i hi => ⟨_, List.getElem?_eq_getElem (by omega)⟩
  obtain ⟨y0, e0⟩ := get 0 (by omega)
  obtain ⟨y1, e1⟩ := get 1 (by omega)
  obtain ⟨y2, e2⟩ := get 2 (by omega)
  obtain ⟨y3, e3⟩ := get 3 (by omega)
  obtain ⟨y4, e4⟩ := get 4 (by omega)
  have f0 : DataW.trod enc Try.prog W 0 (fun _ => true) true n 3 (([v0, v1, v2, v3, v4].drop 0).take (Try.prog.cellsOf 3)) = some y0 := (hf 0 _ rfl).trans e0
  have f1 : DataW.trod enc Try.prog W 0 (fun _ => true) true n 3 (([v0, v1, v2, v3, v4].drop 1).take (Try.prog.cellsOf 3)) = some y1 := (hf 1 _ rfl).trans e1
  have f2 : DataW.trod enc Try.prog W 0 (fun _ => true) true n 9 (([v0, v1, v2, v3, v4].drop 2).take (Try.prog.cellsOf 9)) = some y2 := (hf 2 _ rfl).trans e2
  have f3 : DataW.trod enc Try.prog W 0 (fun _ => true) true n 23 (([v0, v1, v2, v3, v4].drop 3).take (Try.prog.cellsOf 23)) = some y3 := (hf 3 _ rfl).trans e3
  have f4 : DataW.trod enc Try.prog W 0 (fun _ => true) true n 24 (([v0, v1, v2, v3, v4].drop 4).take (Try.prog.cellsOf 24)) = some y4 := (hf 4 _ rfl).trans e4
  rw [h3] at f0 f1
  rw [h9] at f2
  rw [h23] at f3
  rw [h24] at f4
  simp only [List.drop_zero, List.drop_succ_cons, List.take_succ_cons, List.take_zero] at f0 f1 f2 f3 f4
  obtain ⟨k, ek, _, _⟩ := DataW.trod_int Try.underlying3 f0
  obtain ⟨m, em, _, _⟩ := DataW.trod_int Try.underlying3 f1
  obtain ⟨s, es, _, _⟩ := DataW.trod_string Try.underlying9 f2
  obtain ⟨A3, c3, ls, el, l3, g3⟩ := openS f3
  have hA : ∃ A c ar, [v4] = [.slice A ar.length c] ∧ ar.length ≤ c ∧ k26.C W A ar.length ar := by
    rcases DataW.trod_slice Try.underlying24 f4 with ⟨e, _⟩ | ⟨a, len, cap, elems, rest, n', rfl, e, _, _, hlc, hcap, hel, hget, _⟩
    · exact ⟨none, 0, [], e, Nat.le_refl _, Kd.C_nil _ _⟩
    · obtain ⟨xs', hxl', hC⟩ := c_of k26 (W := W) (ad := a) (n := len) (by simp only [maxLen] at hcap; omega) (by
        intro i hi
        have hg := hget i hi
        rw [List.getElem?_eq_getElem (by omega)] at hg
        obtain ⟨cs, hcs, ht⟩ := Option.bind_eq_some_iff.1 hg
        rw [h5] at hcs
        obtain ⟨_, hl, hc⟩ := World.cells?_some hcs
        obtain ⟨y, _, hK⟩ := ih n' (by omega) ht
        refine ⟨y, cs, hl, hK, fun j u hu => ?_⟩
        have hj : j < 5 := by have := (List.getElem?_eq_some_iff.1 hu).1; omega
        have h_ := hc j hj
        rw [Addr.add_add] at h_
        exact h_.trans hu)
      subst hxl'
      exact ⟨some a, cap, xs', e, hlc, hC⟩
  obtain ⟨A4, c4, ar, ea, l4, g4⟩ := hA
  cases ek
  cases em
  cases es
  cases el
  cases ea
  exact ⟨⟨k, m, s, ls, ar⟩, rfl, k26_mk W ⟨k, m, s, ls, ar⟩ l3 g3 l4 g4⟩
theorem openL {W : World} {fuel : Nat} {cs : List Value} {x : DataW H × List MemPlace} (h : DataW.trod enc Try.prog W 0 (fun _ => true) true fuel 24 cs = some x) : ∃ A c ar, cs = [.slice A ar.length c] ∧ ar.length ≤ c ∧ k26.C W A ar.length ar := by
  have h5 : Try.prog.cellsOf 26 = 5 := by kernel_rfl
  rcases DataW.trod_slice Try.underlying24 h with ⟨e, _⟩ | ⟨a, len, cap, elems, rest, n', rfl, e, _, _, hlc, hcap, hel, hget, _⟩
  · exact ⟨none, 0, [], e, Nat.le_refl _, Kd.C_nil _ _⟩
  · obtain ⟨xs', hxl', hC⟩ := c_of k26 (W := W) (ad := a) (n := len) (by simp only [maxLen] at hcap; omega) (by
      intro i hi
      have hg := hget i hi
      rw [List.getElem?_eq_getElem (by omega)] at hg
      obtain ⟨cs, hcs, ht⟩ := Option.bind_eq_some_iff.1 hg
      rw [h5] at hcs
      obtain ⟨_, hl, hc⟩ := World.cells?_some hcs
      obtain ⟨y, _, hK⟩ := open26 n' ht
      refine ⟨y, cs, hl, hK, fun j u hu => ?_⟩
      have hj : j < 5 := by have := (List.getElem?_eq_some_iff.1 hu).1; omega
      have h_ := hc j hj
      rw [Addr.add_add] at h_
      exact h_.trans hu)
    subst hxl'
    exact ⟨some a, cap, xs', e, hlc, hC⟩
set_option maxRecDepth 1000000 in
/-- A type that a row hands over. -/
theorem arg26 {W : World} {r : Reach} {b0 : Nat} {v : Value} {d : DataW H} {p : List MemPlace} (hv : Value.okWide Try.prog W r b0 26 v) (h : DataW.Trod enc Try.prog W 0 (fun _ => true) true 26 v d p) : ∃ y, RT W v y := by
  obtain ⟨cs, rfl, _⟩ := okWide_struct Try.underlying26 hv
  obtain ⟨fuel, h⟩ := h
  obtain ⟨y, _, hK⟩ := open26 fuel h
  obtain ⟨A3, c3, A4, c4, e, l3, g3, l4, g4⟩ := k26_open hK
  refine ⟨y, A3, c3, A4, c4, ?_, l3, g3, l4, g4⟩
  have : cs = #[.int .i64 y.f0, .int .i64 y.f1, .string y.f2, .slice A3 y.f3.length c3, .slice A4 y.f4.length c4] := by
    rw [← Array.toList_inj]; exact e
  rw [this]
end Go.Proofs.Ytkeeknlfommieaa.PF
namespace Go.Proofs.Ytkeeknlfommieaa.PF
open Go.ChangeShapes Go.WideShapes Go.ChangeAt
open Go.RowKit Go.Proofs.YtkeeknlfommieaaW.PrintWords Go.Proofs.YtkeeknlfommieaaW.PrintLast Go.Proofs.YtkeeknlfommieaaW.PrintMore
variable {H : Type} {enc : TypeId × Value → H}
set_option maxRecDepth 1000000 in
theorem argS {W : World} {r : Reach} {b0 : Nat} {v : Value} {d : DataW H} {p : List MemPlace} (hv : Value.okWide Try.prog W r b0 23 v) (h : DataW.Trod enc Try.prog W 0 (fun _ => true) true 23 v d p) : ∃ A c ls, v = .slice A ls.length c ∧ ls.length ≤ c ∧ Kd.string.C W A ls.length ls := by
  obtain ⟨a, len, cap, rfl⟩ := okWide_slice Try.underlying23 hv
  obtain ⟨fuel, h⟩ := h
  obtain ⟨A, c, ls, e, h1, h2⟩ := openS h
  have e' : [Value.slice a len cap] = [.slice A ls.length c] := e
  exact ⟨A, c, ls, (List.cons.inj e').1, h1, h2⟩
set_option maxRecDepth 1000000 in
theorem argL {W : World} {r : Reach} {b0 : Nat} {v : Value} {d : DataW H} {p : List MemPlace} (hv : Value.okWide Try.prog W r b0 24 v) (h : DataW.Trod enc Try.prog W 0 (fun _ => true) true 24 v d p) : ∃ A c ar, v = .slice A ar.length c ∧ ar.length ≤ c ∧ k26.C W A ar.length ar := by
  obtain ⟨a, len, cap, rfl⟩ := okWide_slice Try.underlying24 hv
  obtain ⟨fuel, h⟩ := h
  obtain ⟨A, c, ar, e, h1, h2⟩ := openL h
  have e' : [Value.slice a len cap] = [.slice A ar.length c] := e
  exact ⟨A, c, ar, (List.cons.inj e').1, h1, h2⟩
end Go.Proofs.Ytkeeknlfommieaa.PF
namespace Go.Proofs.Ytkeeknlfommieaa.PF
open Go.ChangeShapes Go.WideShapes Go.ChangeAt
open Go.RowKit Go.Proofs.YtkeeknlfommieaaW.PrintWords Go.Proofs.YtkeeknlfommieaaW.PrintLast Go.Proofs.YtkeeknlfommieaaW.PrintMore
variable {H : Type} {enc : TypeId × Value → H}
set_option maxRecDepth 1000000 in
theorem argU8 {W : World} {r : Reach} {b0 : Nat} {v : Value} {d : DataW H} {p : List MemPlace} (hv : Value.okWide Try.prog W r b0 5 v) (h : DataW.Trod enc Try.prog W 0 (fun _ => true) true 5 v d p) : ∃ k : Nat, v = .int .u8 k ∧ k ≤ 255 := by
  obtain ⟨n, rfl⟩ := okWide_int Try.underlying5 hv
  obtain ⟨fuel, h⟩ := h
  obtain ⟨m, e, _, hw⟩ := DataW.trod_int Try.underlying5 h
  have e' : [Value.int .u8 n] = [.int .u8 m] := e
  injection e' with e1
  injection e1 with _ e2
  subst e2
  have h2 : IntKind.u8.min ≤ n ∧ n ≤ IntKind.u8.max := by simpa [Lit.wf] using hw
  have h3 : (0 : Int) ≤ n := h2.1
  have h4 : n ≤ 255 := h2.2
  obtain ⟨k, rfl⟩ := Int.eq_ofNat_of_zero_le h3
  exact ⟨k, rfl, by omega⟩
end Go.Proofs.Ytkeeknlfommieaa.PF
namespace Go.Proofs.Ytkeeknlfommieaa.tyTurned
open Go.ChangeShapes Go.WideShapes Go.ChangeAt Go.RowKit
set_option linter.unusedVariables false
theorem own : ownKnob Try.prog.godebug = none := by kernel_rfl
theorem laidOut : laidOutB Try.prog = true := by kernel_rfl
set_option maxRecDepth 1000000 in
theorem lifted (os : Os) (started : os.Started) (H : Type) (enc : TypeId × Value → H) :
    ReturnsInHanded {} Try.checked os 9 .any (Rows.tyTurnedSpec.pre6 enc Try.prog Try.f9 Rows.tyTurnedRow.domain false) (Rows.tyTurnedSpec.post enc Try.prog Try.f9 false true false false) := by
  refine returnsInHanded_of_change_sized (C := Try.checked) own started (by kernel_rfl) Try.func9
    (ChangeSpec.witness6 (enc := enc) (C := Try.checked) false ⟨#[], #[.slice none 0 0, .slice none 0 0, .int .u8 0], []⟩ 8 (by kernel_rfl) (by kernel_rfl) (by kernel_rfl) (by kernel_rfl)) ?_
  intro W base args ds gs before hval0 hW hcnd hsz0 _
  have hval : ∀ (j : Nat) t v, Try.f9.params[j]? = some t → args[j]? = some v → Value.okWide Try.prog W .any base t v := hval0
  have hW' := hW
  obtain ⟨p, q, hA0, hV, rfl, hfz, hnd⟩ := hW
  have hA : DataW.TrodAll enc Try.prog W 0 (fun _ => true) true Try.f9.params.toList args.toList ds p := hA0
  rw [Try.params9] at hA hval
  obtain ⟨v0, vs0, d0, ds0, p0, q0, hargs, rfl, rfl, h0, r0⟩ := trodAll_cons hA
  obtain ⟨v1, vs1, d1, ds1, p1, q1, rfl, rfl, rfl, h1, r1⟩ := trodAll_cons r0
  obtain ⟨v2, vs2, d2, ds2, p2, q2, rfl, rfl, rfl, h2, r2⟩ := trodAll_cons r1
  obtain ⟨rfl, rfl, rfl⟩ := trodAll_nil r2
  obtain rfl : args = #[v0, v1, v2] := by cases args; simp_all
  obtain ⟨rfl, rfl⟩ := trodVars_none hV
  have lt0 : ∀ x ∈ p0, x.block < W.heap.size := by obtain ⟨m, hm⟩ := h0; exact DataW.trod_lt m _ _ _ hm
  have lt1 : ∀ x ∈ p1, x.block < W.heap.size := by obtain ⟨m, hm⟩ := h1; exact DataW.trod_lt m _ _ _ hm
  have lt2 : ∀ x ∈ p2, x.block < W.heap.size := by obtain ⟨m, hm⟩ := h2; exact DataW.trod_lt m _ _ _ hm
  obtain ⟨A, c, ls, rfl, lc, g3⟩ := PF.argS (hval 0 23 v0 rfl rfl) h0
  obtain ⟨B, d, ar, rfl, ld, g4⟩ := PF.argL (hval 1 24 v1 rfl rfl) h1
  obtain ⟨kk, rfl, hkk⟩ := PF.argU8 (hval 2 5 v2 rfl rfl) h2
  clear hA0 hval0 hsz0
  refine (PF.tyturned_calls ls ar kk hkk W A c B d lc g3 ld g4).mono fun e W' ⟨he, bel⟩ => ?_
  subst he
  exact ⟨_, rfl, _, _, _, [], _, [], hW', trodAll_mk1 (shut_bool Try.underlying4 _), (trodAll_cons_mk (Below.trod laidOut (by kernel_rfl) (of_decide_eq_true (by kernel_rfl)) h0 bel lt0) (trodAll_cons_mk (Below.trod laidOut (by kernel_rfl) (of_decide_eq_true (by kernel_rfl)) h1 bel lt1) (trodAll_cons_mk (Below.trod laidOut (by kernel_rfl) (of_decide_eq_true (by kernel_rfl)) h2 bel lt2) trodAll_mk0))), rfl, bel.frame _, fun h => by cases h⟩
theorem over : Rows.tyTurnedRow.holds Try.pinned (OpenSpec.ofChange Rows.tyTurnedSpec) :=
  OpenClaim.holds_of_wide 9 Try.f9 rfl rfl rfl rfl rfl rfl rfl ⟨rfl, rfl, rfl, rfl, rfl⟩ rfl rfl rfl rfl rfl (by kernel_rfl) Try.func9 (by kernel_rfl)
    (of_decide_eq_true (by kernel_rfl)) (by unfold Func.isWrapper; first | (rw [if_pos (by decide +kernel)]; kernel_rfl) | (rw [if_neg (by decide +kernel)]; exact ⟨rfl, rfl⟩))
    (fun os started H enc _ => lifted os started H enc)
theorem proved : Rows.TyTurnedSaid := over
end Go.Proofs.Ytkeeknlfommieaa.tyTurned
namespace Go.Proofs.Ytkeeknlfommieaa
theorem tyTurned_holds : Rows.TyTurnedSaid := tyTurned.proved
end Go.Proofs.Ytkeeknlfommieaa
