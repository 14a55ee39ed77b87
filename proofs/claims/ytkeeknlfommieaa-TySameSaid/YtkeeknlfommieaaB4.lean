/- ty.bare, ty.Right: contracts at every type. -/
import Derived.Test.YtkeeknlfommieaaB1
import Derived.Test.YtkeeknlfommieaaB3
import Derived.Test.YtkeeknlfommieaaT1
import Derived.Test.YtkeeknlfommieaaPFx12
namespace Go.Proofs.Ytkeeknlfommieaa.PF
open Go.RowKit Go.Shelf Go.Proofs.YtkeeknlfommieaaW.PrintWords Go.Proofs.YtkeeknlfommieaaW.PrintLast Go.Proofs.YtkeeknlfommieaaW.PrintMore

theorem bcell {W w1 : World} (hb : Below W.heap.size W w1) : (∀ b o, b < W.heap.size → w1.cell? ⟨b, o, none⟩ = W.cell? ⟨b, o, none⟩) ∧ (∀ b o, b < W.heap.size → w1.frozen? ⟨b, o, none⟩ = W.frozen? ⟨b, o, none⟩) :=
  ⟨fun b o h => hb.cell (p := ⟨b, o, none⟩) h, fun b o h => hb.frozen (p := ⟨b, o, none⟩) h⟩
theorem bare_eq (k n : Int) (nm : ByteArray) (ls : List ByteArray) (ar : List S26) : ty_bare.f k n nm ls ar = some (bareT k n nm ls) := by
  have e : (nm.toList = ([] : List UInt8)) = (nm.data.toList.isEmpty = true) := by rw [ByteArray.toList_eq]; simp
  have e2 : ((ls.length : Int) == 0) = decide (ls.length = 0) := by rw [Bool.eq_iff_iff]; simp
  unfold ty_bare.f bareT
  simp only [e, e2]
  cases nm.data.toList.isEmpty <;> by_cases h6 : k = 6 <;> by_cases h9 : k = 9 <;> by_cases h8 : k = 8 <;> by_cases hn : n = 0 <;> simp [h6, h9, h8, hn] <;> omega

theorem right1_calls (x : S26) (W : World) (A3 : Option Addr) (c3 : Nat) (A4 : Option Addr) (c4 : Nat)
    (hR : ∀ W', Below W.heap.size W W' → Calls Try.prog 26 #[.agg #[.int .i64 x.f0, .int .i64 x.f1, .string x.f2, .slice A3 x.f3.length c3, .slice A4 x.f4.length c4]] W' fun e W'' => e = .returned (.bool (rightT x)) ∧ Below W'.heap.size W' W'') :
    Calls Try.prog 65 #[.agg #[.int .i64 x.f0, .int .i64 x.f1, .string x.f2, .slice A3 x.f3.length c3, .slice A4 x.f4.length c4]] W fun e W' => e = .returned (.bool (!rightT x)) ∧ Below W.heap.size W W' := by
  have HR := Aside0.mk hR
  clear hR
  go_enter Try.func65, Try.ntmps65
  go_wp2_with (go_at_call 26; refine (HR.out _ (below_alloc (Below.refl _ _) _)).mono ?_; rintro e w' ⟨rfl, hb⟩)
  go_ret
  exact ⟨rfl, (below_alloc (Below.refl _ _) _).trans (hb.mono (by simp))⟩

set_option maxRecDepth 100000 in
set_option maxHeartbeats 2000000 in
theorem right_calls (t : S26) : ∀ (w : World) (A3 : Option Addr) (c3 : Nat) (A4 : Option Addr) (c4 : Nat) (_ : t.f3.length ≤ c3) (_ : Kd.string.C w A3 t.f3.length t.f3) (_ : t.f4.length ≤ c4) (_ : k26.C w A4 t.f4.length t.f4),
    Calls Try.prog 26 #[.agg #[.int .i64 t.f0, .int .i64 t.f1, .string t.f2, .slice A3 t.f3.length c3, .slice A4 t.f4.length c4]] w fun e w' => e = .returned (.bool (rightT t)) ∧ Below w.heap.size w w' := by
  induction t using S26.ind with
  | h k n nm ls ar ih =>
  intro w A3 c3 A4 c4 l3 g3 l4 g4
  dsimp only at l3 g3 l4 g4 ⊢
  have HB := fun (W : World) (hb : Below w.heap.size w W) => ty_bare.calls k n nm A3 c3 ls A4 c4 ar (bareT k n nm ls) W (Kd.C_below g3 hb) l3 (Kd.C_below g4 hb) l4 (bare_eq _ _ _ _ _)
  have HC := fun (W : World) (hb : Below w.heap.size w W) => containsFunc_calls 65 (fun x => !rightT x) ar A4 c4 W (Kd.C_below g4 hb) (enters_of Try.func65 (by kernel_rfl) rfl)
    (fun x hx W' B3 d3 B4 d4 hbW m3 q3 m4 q4 => right1_calls x W' B3 d3 B4 d4 (fun W'' hb'' => ih x hx W'' B3 d3 B4 d4 m3 (Kd.C_below q3 hb'') m4 (Kd.C_below q4 hb'')))
  have HB' := Aside0.mk HB
  have HC' := Aside0.mk HC
  have HE := Aside0.mk (rightT_eq ⟨k, n, nm, ls, ar⟩)
  have HG3 := Aside0.mk g3
  have HG4 := Aside0.mk g4
  clear HB HC ih g3 g4 l3 l4
  have hany := any_not ar
  obtain ⟨bb, hbb⟩ : ∃ b, bareT k n nm ls = b := ⟨_, rfl⟩
  obtain ⟨bc, hbc⟩ : ∃ b, (ar.any fun x => !rightT x) = b := ⟨_, rfl⟩
  have HBV := Aside0.mk hbb
  have HCV := Aside0.mk hbc
  have HAV := Aside0.mk hany
  clear hbb hbc hany
  cases bb with
  | false =>
    go_enter Try.func26, Try.ntmps26
    go_wp2_with (first | (go_at_call 63; refine (HB'.out _ (below_alloc (Below.refl _ _) _)).mono ?_; rw [HBV.out]; rintro e w1 ⟨rfl, hb1⟩; obtain ⟨hcell, hfroz⟩ := bcell hb1; have HB1 := Aside0.mk hb1; have hz1 : w.heap.size < w1.heap.size := (by have h_ := hb1.size; simp only [World.size_alloc] at h_; omega); clear hb1) | (go_at_call 64; refine (HC'.out _ ((below_alloc (Below.refl _ _) _).trans (HB1.out.mono (by simp)))).mono ?_; rw [HCV.out]; rintro e w2 ⟨rfl, hb2⟩; obtain ⟨hcell2, hfroz2⟩ := bcell hb2; have HB2 := Aside0.mk hb2; have hz2 : w.heap.size < w2.heap.size := Nat.lt_of_lt_of_le hz1 hb2.size; clear hb2))
    go_ret
    exact ⟨ret_bool (by rw [HE.out]; simp only [HBV.out, Bool.false_and]), (below_alloc (Below.refl _ _) _).trans (HB1.out.mono (by simp))⟩
  | true =>
    cases bc with
    | true =>
      go_enter Try.func26, Try.ntmps26
      go_wp2_with (first | (go_at_call 63; refine (HB'.out _ (below_alloc (Below.refl _ _) _)).mono ?_; rw [HBV.out]; rintro e w1 ⟨rfl, hb1⟩; obtain ⟨hcell, hfroz⟩ := bcell hb1; have HB1 := Aside0.mk hb1; have hz1 : w.heap.size < w1.heap.size := (by have h_ := hb1.size; simp only [World.size_alloc] at h_; omega); clear hb1) | (go_at_call 64; refine (HC'.out _ ((below_alloc (Below.refl _ _) _).trans (HB1.out.mono (by simp)))).mono ?_; rw [HCV.out]; rintro e w2 ⟨rfl, hb2⟩; obtain ⟨hcell2, hfroz2⟩ := bcell hb2; have HB2 := Aside0.mk hb2; have hz2 : w.heap.size < w2.heap.size := Nat.lt_of_lt_of_le hz1 hb2.size; clear hb2))
      go_ret
      exact ⟨ret_bool (by rw [HE.out]; have := HAV.out.symm.trans HCV.out; simp only [Bool.not_eq_true'] at this; simp only [HBV.out, this, Bool.false_and, Bool.and_false]), ((below_alloc (Below.refl _ _) _).trans (HB1.out.mono (by simp))).trans (HB2.out.mono (by omega))⟩
    | false =>
      have hE : rightT ⟨k, n, nm, ls, ar⟩ = kindT k n nm ls ar.length := by
        rw [HE.out]; have := HAV.out.symm.trans HCV.out; simp only [Bool.not_eq_false'] at this; simp only [HBV.out, this, Bool.true_and]
      have HE2 := Aside0.mk hE
      clear hE HE HAV
      by_cases h15 : k = 1 ∨ k = 2 ∨ k = 3 ∨ k = 4 ∨ k = 5
      · have HK := Aside0.mk (show kindT k n nm ls ar.length = decide (ar.length = 0) from by unfold kindT; rw [if_pos (by omega)])
        have HK0 := Aside0.mk (show ((ar.length : Int) == 0) = decide (ar.length = 0) from by rw [Bool.eq_iff_iff]; simp)
        rcases h15 with rfl | rfl | rfl | rfl | rfl
        all_goals
          go_enter Try.func26, Try.ntmps26
          go_wp2_with (first | (go_at_call 63; refine (HB'.out _ (below_alloc (Below.refl _ _) _)).mono ?_; rw [HBV.out]; rintro e w1 ⟨rfl, hb1⟩; obtain ⟨hcell, hfroz⟩ := bcell hb1; have HB1 := Aside0.mk hb1; have hz1 : w.heap.size < w1.heap.size := (by have h_ := hb1.size; simp only [World.size_alloc] at h_; omega); clear hb1) | (go_at_call 64; refine (HC'.out _ ((below_alloc (Below.refl _ _) _).trans (HB1.out.mono (by simp)))).mono ?_; rw [HCV.out]; rintro e w2 ⟨rfl, hb2⟩; obtain ⟨hcell2, hfroz2⟩ := bcell hb2; have HB2 := Aside0.mk hb2; have hz2 : w.heap.size < w2.heap.size := Nat.lt_of_lt_of_le hz1 hb2.size; clear hb2))
          go_ret
          exact ⟨ret_bool (by rw [HE2.out, HK.out]; exact HK0.out), ((below_alloc (Below.refl _ _) _).trans (HB1.out.mono (by simp))).trans (HB2.out.mono (by omega))⟩
      have n1 : (k == 1) = false := beq_eq_false_iff_ne.2 (by omega)
      have n2 : (k == 2) = false := beq_eq_false_iff_ne.2 (by omega)
      have n3 : (k == 3) = false := beq_eq_false_iff_ne.2 (by omega)
      have n4 : (k == 4) = false := beq_eq_false_iff_ne.2 (by omega)
      have n5 : (k == 5) = false := beq_eq_false_iff_ne.2 (by omega)
      have hk15 : ¬ (1 ≤ k ∧ k ≤ 5) := by omega
      clear h15
      by_cases h6 : k = 6
      · subst h6
        clear n1 n2 n3 n4 n5 hk15
        have HK := Aside0.mk (show kindT 6 n nm ls ar.length = (decide (ar.length = 0) && varN nm.data.toList) from by unfold kindT; simp)
        by_cases hl : ar.length = 0
        · have hl' : ((ar.length : Int) == 0) = true := beq_iff_eq.2 (by omega)
          have HL := Aside0.mk hl
          clear hl
          go_enter Try.func26, Try.ntmps26
          go_wp2_with (first | (go_at_call 63; refine (HB'.out _ (below_alloc (Below.refl _ _) _)).mono ?_; rw [HBV.out]; rintro e w1 ⟨rfl, hb1⟩; obtain ⟨hcell, hfroz⟩ := bcell hb1; have HB1 := Aside0.mk hb1; have hz1 : w.heap.size < w1.heap.size := (by have h_ := hb1.size; simp only [World.size_alloc] at h_; omega); clear hb1) | (go_at_call 64; refine (HC'.out _ ((below_alloc (Below.refl _ _) _).trans (HB1.out.mono (by simp)))).mono ?_; rw [HCV.out]; rintro e w2 ⟨rfl, hb2⟩; obtain ⟨hcell2, hfroz2⟩ := bcell hb2; have HB2 := Aside0.mk hb2; have hz2 : w.heap.size < w2.heap.size := Nat.lt_of_lt_of_le hz1 hb2.size; clear hb2) | (go_at_call 66; refine (var_calls _ _).mono ?_; rintro e w3 ⟨rfl, hb3⟩))
          go_ret
          exact ⟨ret_bool (by rw [HE2.out, HK.out, HL.out]; rfl), (((below_alloc (Below.refl _ _) _).trans (HB1.out.mono (by simp))).trans (HB2.out.mono (by omega))).trans (hb3.mono (by omega))⟩
        · have hl' : ((ar.length : Int) == 0) = false := beq_eq_false_iff_ne.2 (by omega)
          have HL := Aside0.mk (decide_eq_false hl)
          clear hl
          go_enter Try.func26, Try.ntmps26
          go_wp2_with (first | (go_at_call 63; refine (HB'.out _ (below_alloc (Below.refl _ _) _)).mono ?_; rw [HBV.out]; rintro e w1 ⟨rfl, hb1⟩; obtain ⟨hcell, hfroz⟩ := bcell hb1; have HB1 := Aside0.mk hb1; have hz1 : w.heap.size < w1.heap.size := (by have h_ := hb1.size; simp only [World.size_alloc] at h_; omega); clear hb1) | (go_at_call 64; refine (HC'.out _ ((below_alloc (Below.refl _ _) _).trans (HB1.out.mono (by simp)))).mono ?_; rw [HCV.out]; rintro e w2 ⟨rfl, hb2⟩; obtain ⟨hcell2, hfroz2⟩ := bcell hb2; have HB2 := Aside0.mk hb2; have hz2 : w.heap.size < w2.heap.size := Nat.lt_of_lt_of_le hz1 hb2.size; clear hb2))
          go_ret
          exact ⟨ret_bool (by rw [HE2.out, HK.out, HL.out]; rfl), ((below_alloc (Below.refl _ _) _).trans (HB1.out.mono (by simp))).trans (HB2.out.mono (by omega))⟩
      by_cases h9 : k = 9
      · subst h9
        clear n1 n2 n3 n4 n5 hk15 h6
        have HK := Aside0.mk (show kindT 9 n nm ls ar.length = (decide (ar.length = 0) && decide (0 ≤ n ∧ n ≤ 1073741824)) from by unfold kindT; simp)
        by_cases hl : ar.length = 0
        · have hl' : ((ar.length : Int) == 0) = true := beq_iff_eq.2 (by omega)
          have HL := Aside0.mk hl
          clear hl
          by_cases hn0 : 0 ≤ n
          · have HN := Aside0.mk (show decide (0 ≤ n ∧ n ≤ 1073741824) = decide (n ≤ 1073741824) from by rw [Bool.eq_iff_iff]; simp [hn0])
            go_enter Try.func26, Try.ntmps26
            go_wp2_with (first | (go_at_call 63; refine (HB'.out _ (below_alloc (Below.refl _ _) _)).mono ?_; rw [HBV.out]; rintro e w1 ⟨rfl, hb1⟩; obtain ⟨hcell, hfroz⟩ := bcell hb1; have HB1 := Aside0.mk hb1; have hz1 : w.heap.size < w1.heap.size := (by have h_ := hb1.size; simp only [World.size_alloc] at h_; omega); clear hb1) | (go_at_call 64; refine (HC'.out _ ((below_alloc (Below.refl _ _) _).trans (HB1.out.mono (by simp)))).mono ?_; rw [HCV.out]; rintro e w2 ⟨rfl, hb2⟩; obtain ⟨hcell2, hfroz2⟩ := bcell hb2; have HB2 := Aside0.mk hb2; have hz2 : w.heap.size < w2.heap.size := Nat.lt_of_lt_of_le hz1 hb2.size; clear hb2))
            go_ret
            exact ⟨ret_bool (by rw [HE2.out, HK.out, HL.out, HN.out]; rfl), ((below_alloc (Below.refl _ _) _).trans (HB1.out.mono (by simp))).trans (HB2.out.mono (by omega))⟩
          · have HN := Aside0.mk (show decide (0 ≤ n ∧ n ≤ 1073741824) = false from by simp [hn0])
            go_enter Try.func26, Try.ntmps26
            go_wp2_with (first | (go_at_call 63; refine (HB'.out _ (below_alloc (Below.refl _ _) _)).mono ?_; rw [HBV.out]; rintro e w1 ⟨rfl, hb1⟩; obtain ⟨hcell, hfroz⟩ := bcell hb1; have HB1 := Aside0.mk hb1; have hz1 : w.heap.size < w1.heap.size := (by have h_ := hb1.size; simp only [World.size_alloc] at h_; omega); clear hb1) | (go_at_call 64; refine (HC'.out _ ((below_alloc (Below.refl _ _) _).trans (HB1.out.mono (by simp)))).mono ?_; rw [HCV.out]; rintro e w2 ⟨rfl, hb2⟩; obtain ⟨hcell2, hfroz2⟩ := bcell hb2; have HB2 := Aside0.mk hb2; have hz2 : w.heap.size < w2.heap.size := Nat.lt_of_lt_of_le hz1 hb2.size; clear hb2))
            go_ret
            exact ⟨ret_bool (by rw [HE2.out, HK.out, HL.out, HN.out]; rfl), ((below_alloc (Below.refl _ _) _).trans (HB1.out.mono (by simp))).trans (HB2.out.mono (by omega))⟩
        · have hl' : ((ar.length : Int) == 0) = false := beq_eq_false_iff_ne.2 (by omega)
          have HL := Aside0.mk (decide_eq_false hl)
          clear hl
          go_enter Try.func26, Try.ntmps26
          go_wp2_with (first | (go_at_call 63; refine (HB'.out _ (below_alloc (Below.refl _ _) _)).mono ?_; rw [HBV.out]; rintro e w1 ⟨rfl, hb1⟩; obtain ⟨hcell, hfroz⟩ := bcell hb1; have HB1 := Aside0.mk hb1; have hz1 : w.heap.size < w1.heap.size := (by have h_ := hb1.size; simp only [World.size_alloc] at h_; omega); clear hb1) | (go_at_call 64; refine (HC'.out _ ((below_alloc (Below.refl _ _) _).trans (HB1.out.mono (by simp)))).mono ?_; rw [HCV.out]; rintro e w2 ⟨rfl, hb2⟩; obtain ⟨hcell2, hfroz2⟩ := bcell hb2; have HB2 := Aside0.mk hb2; have hz2 : w.heap.size < w2.heap.size := Nat.lt_of_lt_of_le hz1 hb2.size; clear hb2))
          go_ret
          exact ⟨ret_bool (by rw [HE2.out, HK.out, HL.out]; rfl), ((below_alloc (Below.refl _ _) _).trans (HB1.out.mono (by simp))).trans (HB2.out.mono (by omega))⟩
      by_cases h7 : k = 7
      · subst h7
        clear n1 n2 n3 n4 n5 hk15 h6 h9
        have HK := Aside0.mk (show kindT 7 n nm ls ar.length = decide (ar.length = 2) from by unfold kindT; simp)
        have HK0 := Aside0.mk (show ((ar.length : Int) == 2) = decide (ar.length = 2) from by rw [Bool.eq_iff_iff]; simp; omega)
        go_enter Try.func26, Try.ntmps26
        go_wp2_with (first | (go_at_call 63; refine (HB'.out _ (below_alloc (Below.refl _ _) _)).mono ?_; rw [HBV.out]; rintro e w1 ⟨rfl, hb1⟩; obtain ⟨hcell, hfroz⟩ := bcell hb1; have HB1 := Aside0.mk hb1; have hz1 : w.heap.size < w1.heap.size := (by have h_ := hb1.size; simp only [World.size_alloc] at h_; omega); clear hb1) | (go_at_call 64; refine (HC'.out _ ((below_alloc (Below.refl _ _) _).trans (HB1.out.mono (by simp)))).mono ?_; rw [HCV.out]; rintro e w2 ⟨rfl, hb2⟩; obtain ⟨hcell2, hfroz2⟩ := bcell hb2; have HB2 := Aside0.mk hb2; have hz2 : w.heap.size < w2.heap.size := Nat.lt_of_lt_of_le hz1 hb2.size; clear hb2))
        go_ret
        exact ⟨ret_bool (by rw [HE2.out, HK.out]; exact HK0.out), ((below_alloc (Below.refl _ _) _).trans (HB1.out.mono (by simp))).trans (HB2.out.mono (by omega))⟩
      by_cases h8 : k = 8
      · subst h8
        clear n1 n2 n3 n4 n5 hk15 h6 h7 h9
        have HK := Aside0.mk (show kindT 8 n nm ls ar.length = (decide (ar.length = ls.length) && risingN (bl ls)) from by unfold kindT; simp)
        by_cases hl : ar.length = ls.length
        · have hl' : ((ar.length : Int) == (ls.length : Int)) = true := beq_iff_eq.2 (by omega)
          have HL := Aside0.mk hl
          clear hl
          go_enter Try.func26, Try.ntmps26
          go_wp2_with (first | (go_at_call 63; refine (HB'.out _ (below_alloc (Below.refl _ _) _)).mono ?_; rw [HBV.out]; rintro e w1 ⟨rfl, hb1⟩; obtain ⟨hcell, hfroz⟩ := bcell hb1; have HB1 := Aside0.mk hb1; have hz1 : w.heap.size < w1.heap.size := (by have h_ := hb1.size; simp only [World.size_alloc] at h_; omega); clear hb1) | (go_at_call 64; refine (HC'.out _ ((below_alloc (Below.refl _ _) _).trans (HB1.out.mono (by simp)))).mono ?_; rw [HCV.out]; rintro e w2 ⟨rfl, hb2⟩; obtain ⟨hcell2, hfroz2⟩ := bcell hb2; have HB2 := Aside0.mk hb2; have hz2 : w.heap.size < w2.heap.size := Nat.lt_of_lt_of_le hz1 hb2.size; clear hb2) | (go_at_call 67; refine (rising_calls _ _ _ _ (Kd.C_below HG3.out ((((below_alloc (Below.refl _ _) _).trans (HB1.out.mono (by simp))).trans (HB2.out.mono (by omega)))))).mono ?_; rintro e w3 ⟨rfl, hb3⟩))
          go_ret
          exact ⟨ret_bool (by rw [HE2.out, HK.out, HL.out]; simp), (((below_alloc (Below.refl _ _) _).trans (HB1.out.mono (by simp))).trans (HB2.out.mono (by omega))).trans (hb3.mono (by omega))⟩
        · have hl' : ((ar.length : Int) == (ls.length : Int)) = false := beq_eq_false_iff_ne.2 (by omega)
          have HL := Aside0.mk (decide_eq_false hl)
          clear hl
          go_enter Try.func26, Try.ntmps26
          go_wp2_with (first | (go_at_call 63; refine (HB'.out _ (below_alloc (Below.refl _ _) _)).mono ?_; rw [HBV.out]; rintro e w1 ⟨rfl, hb1⟩; obtain ⟨hcell, hfroz⟩ := bcell hb1; have HB1 := Aside0.mk hb1; have hz1 : w.heap.size < w1.heap.size := (by have h_ := hb1.size; simp only [World.size_alloc] at h_; omega); clear hb1) | (go_at_call 64; refine (HC'.out _ ((below_alloc (Below.refl _ _) _).trans (HB1.out.mono (by simp)))).mono ?_; rw [HCV.out]; rintro e w2 ⟨rfl, hb2⟩; obtain ⟨hcell2, hfroz2⟩ := bcell hb2; have HB2 := Aside0.mk hb2; have hz2 : w.heap.size < w2.heap.size := Nat.lt_of_lt_of_le hz1 hb2.size; clear hb2))
          go_ret
          exact ⟨ret_bool (by rw [HE2.out, HK.out, HL.out]; rfl), ((below_alloc (Below.refl _ _) _).trans (HB1.out.mono (by simp))).trans (HB2.out.mono (by omega))⟩
      have HK := Aside0.mk (show kindT k n nm ls ar.length = false from by unfold kindT; rw [if_neg hk15, if_neg h6, if_neg h9, if_neg h7, if_neg h8])
      have n6 : (k == 6) = false := beq_eq_false_iff_ne.2 (by omega)
      have n7 : (k == 7) = false := beq_eq_false_iff_ne.2 (by omega)
      have n8 : (k == 8) = false := beq_eq_false_iff_ne.2 (by omega)
      have n9 : (k == 9) = false := beq_eq_false_iff_ne.2 (by omega)
      clear h6 h7 h8 h9 hk15
      go_enter Try.func26, Try.ntmps26
      go_wp2_with (first | (go_at_call 63; refine (HB'.out _ (below_alloc (Below.refl _ _) _)).mono ?_; rw [HBV.out]; rintro e w1 ⟨rfl, hb1⟩; obtain ⟨hcell, hfroz⟩ := bcell hb1; have HB1 := Aside0.mk hb1; have hz1 : w.heap.size < w1.heap.size := (by have h_ := hb1.size; simp only [World.size_alloc] at h_; omega); clear hb1) | (go_at_call 64; refine (HC'.out _ ((below_alloc (Below.refl _ _) _).trans (HB1.out.mono (by simp)))).mono ?_; rw [HCV.out]; rintro e w2 ⟨rfl, hb2⟩; obtain ⟨hcell2, hfroz2⟩ := bcell hb2; have HB2 := Aside0.mk hb2; have hz2 : w.heap.size < w2.heap.size := Nat.lt_of_lt_of_le hz1 hb2.size; clear hb2))
      go_ret
      exact ⟨ret_bool (by rw [HE2.out, HK.out]), ((below_alloc (Below.refl _ _) _).trans (HB1.out.mono (by simp))).trans (HB2.out.mono (by omega))⟩
end Go.Proofs.Ytkeeknlfommieaa.PF
