/- name.Kind, name.Fine, name.Var, name.Rising: contracts at every text, every list. -/
import Derived.Test.YtkeeknlfommieaaB2
namespace Go.Proofs.Ytkeeknlfommieaa.PF
open Go.RowKit Go.Proofs.YtkeeknlfommieaaW.PrintWords Go.Proofs.YtkeeknlfommieaaW.PrintLast Go.Proofs.YtkeeknlfommieaaW.PrintMore

theorem toList_eq (s : ByteArray) : s.toList = s.data.toList := ByteArray.toList_eq s

set_option maxRecDepth 100000 in
set_option maxHeartbeats 1000000 in
theorem kind_calls (s : ByteArray) (w : World) : Calls Try.prog 98 #[.string s] w fun e w' => e = .returned (.int .i64 (kindN s.data.toList)) ∧ Below w.heap.size w w' := by
  have HT := Aside0.mk (toList_eq s)
  cases h0 : (s.toList == [108, 101, 116]) with
  | true =>
    have HK := Aside0.mk (show kindN s.data.toList = 3 from by rw [← HT.out, eq_of_beq h0]; decide)
    go_enter Try.func98, Try.ntmps98
    go_wp2_with (go_at_call 115; refine (shape_calls _ _).mono ?_; rintro e w' ⟨rfl, hb⟩)
    go_ret
    exact ⟨ret_int HK.out.symm, hb⟩
  | false =>
  cases h1 : (s.toList == [105, 110]) with
  | true =>
    have HK := Aside0.mk (show kindN s.data.toList = 3 from by rw [← HT.out, eq_of_beq h1]; decide)
    go_enter Try.func98, Try.ntmps98
    go_wp2_with (go_at_call 115; refine (shape_calls _ _).mono ?_; rintro e w' ⟨rfl, hb⟩)
    go_ret
    exact ⟨ret_int HK.out.symm, hb⟩
  | false =>
  cases h2 : (s.toList == [105, 102]) with
  | true =>
    have HK := Aside0.mk (show kindN s.data.toList = 3 from by rw [← HT.out, eq_of_beq h2]; decide)
    go_enter Try.func98, Try.ntmps98
    go_wp2_with (go_at_call 115; refine (shape_calls _ _).mono ?_; rintro e w' ⟨rfl, hb⟩)
    go_ret
    exact ⟨ret_int HK.out.symm, hb⟩
  | false =>
  cases h3 : (s.toList == [116, 104, 101, 110]) with
  | true =>
    have HK := Aside0.mk (show kindN s.data.toList = 3 from by rw [← HT.out, eq_of_beq h3]; decide)
    go_enter Try.func98, Try.ntmps98
    go_wp2_with (go_at_call 115; refine (shape_calls _ _).mono ?_; rintro e w' ⟨rfl, hb⟩)
    go_ret
    exact ⟨ret_int HK.out.symm, hb⟩
  | false =>
  cases h4 : (s.toList == [101, 108, 115, 101]) with
  | true =>
    have HK := Aside0.mk (show kindN s.data.toList = 3 from by rw [← HT.out, eq_of_beq h4]; decide)
    go_enter Try.func98, Try.ntmps98
    go_wp2_with (go_at_call 115; refine (shape_calls _ _).mono ?_; rintro e w' ⟨rfl, hb⟩)
    go_ret
    exact ⟨ret_int HK.out.symm, hb⟩
  | false =>
  cases h5 : (s.toList == [102, 110]) with
  | true =>
    have HK := Aside0.mk (show kindN s.data.toList = 3 from by rw [← HT.out, eq_of_beq h5]; decide)
    go_enter Try.func98, Try.ntmps98
    go_wp2_with (go_at_call 115; refine (shape_calls _ _).mono ?_; rintro e w' ⟨rfl, hb⟩)
    go_ret
    exact ⟨ret_int HK.out.symm, hb⟩
  | false =>
  cases h6 : (s.toList == [99, 97, 108, 108]) with
  | true =>
    have HK := Aside0.mk (show kindN s.data.toList = 3 from by rw [← HT.out, eq_of_beq h6]; decide)
    go_enter Try.func98, Try.ntmps98
    go_wp2_with (go_at_call 115; refine (shape_calls _ _).mono ?_; rintro e w' ⟨rfl, hb⟩)
    go_ret
    exact ⟨ret_int HK.out.symm, hb⟩
  | false =>
  cases h7 : (s.toList == [100, 101, 102]) with
  | true =>
    have HK := Aside0.mk (show kindN s.data.toList = 3 from by rw [← HT.out, eq_of_beq h7]; decide)
    go_enter Try.func98, Try.ntmps98
    go_wp2_with (go_at_call 115; refine (shape_calls _ _).mono ?_; rintro e w' ⟨rfl, hb⟩)
    go_ret
    exact ⟨ret_int HK.out.symm, hb⟩
  | false =>
  cases h8 : (s.toList == [116, 114, 117, 101]) with
  | true =>
    have HK := Aside0.mk (show kindN s.data.toList = 3 from by rw [← HT.out, eq_of_beq h8]; decide)
    go_enter Try.func98, Try.ntmps98
    go_wp2_with (go_at_call 115; refine (shape_calls _ _).mono ?_; rintro e w' ⟨rfl, hb⟩)
    go_ret
    exact ⟨ret_int HK.out.symm, hb⟩
  | false =>
  cases h9 : (s.toList == [102, 97, 108, 115, 101]) with
  | true =>
    have HK := Aside0.mk (show kindN s.data.toList = 3 from by rw [← HT.out, eq_of_beq h9]; decide)
    go_enter Try.func98, Try.ntmps98
    go_wp2_with (go_at_call 115; refine (shape_calls _ _).mono ?_; rintro e w' ⟨rfl, hb⟩)
    go_ret
    exact ⟨ret_int HK.out.symm, hb⟩
  | false =>
  cases h10 : (s.toList == [73, 110, 116]) with
  | true =>
    have HK := Aside0.mk (show kindN s.data.toList = 4 from by rw [← HT.out, eq_of_beq h10]; decide)
    go_enter Try.func98, Try.ntmps98
    go_wp2_with (go_at_call 115; refine (shape_calls _ _).mono ?_; rintro e w' ⟨rfl, hb⟩)
    go_ret
    exact ⟨ret_int HK.out.symm, hb⟩
  | false =>
  cases h11 : (s.toList == [66, 111, 111, 108]) with
  | true =>
    have HK := Aside0.mk (show kindN s.data.toList = 4 from by rw [← HT.out, eq_of_beq h11]; decide)
    go_enter Try.func98, Try.ntmps98
    go_wp2_with (go_at_call 115; refine (shape_calls _ _).mono ?_; rintro e w' ⟨rfl, hb⟩)
    go_ret
    exact ⟨ret_int HK.out.symm, hb⟩
  | false =>
  cases h12 : (s.toList == [83, 116, 114, 105, 110, 103]) with
  | true =>
    have HK := Aside0.mk (show kindN s.data.toList = 4 from by rw [← HT.out, eq_of_beq h12]; decide)
    go_enter Try.func98, Try.ntmps98
    go_wp2_with (go_at_call 115; refine (shape_calls _ _).mono ?_; rintro e w' ⟨rfl, hb⟩)
    go_ret
    exact ⟨ret_int HK.out.symm, hb⟩
  | false =>
  cases h13 : (s.toList == [84, 111, 112]) with
  | true =>
    have HK := Aside0.mk (show kindN s.data.toList = 4 from by rw [← HT.out, eq_of_beq h13]; decide)
    go_enter Try.func98, Try.ntmps98
    go_wp2_with (go_at_call 115; refine (shape_calls _ _).mono ?_; rintro e w' ⟨rfl, hb⟩)
    go_ret
    exact ⟨ret_int HK.out.symm, hb⟩
  | false =>
  have HK := Aside0.mk (show kindN s.data.toList = shapeN s.data.toList from by rw [← HT.out]; unfold kindN; rw [if_neg (by simp only [keptL, List.mem_cons, List.not_mem_nil, or_false, not_or]; exact ⟨ne_of_beq_false h0, ne_of_beq_false h1, ne_of_beq_false h2, ne_of_beq_false h3, ne_of_beq_false h4, ne_of_beq_false h5, ne_of_beq_false h6, ne_of_beq_false h7, ne_of_beq_false h8, ne_of_beq_false h9⟩), if_neg (by simp only [wordL, List.mem_cons, List.not_mem_nil, or_false, not_or]; exact ⟨ne_of_beq_false h10, ne_of_beq_false h11, ne_of_beq_false h12, ne_of_beq_false h13⟩)])
  go_enter Try.func98, Try.ntmps98
  go_wp2_with (go_at_call 115; refine (shape_calls _ _).mono ?_; rintro e w' ⟨rfl, hb⟩)
  go_ret
  exact ⟨ret_int HK.out.symm, hb⟩

theorem fine_calls (s : ByteArray) (w : World) : Calls Try.prog 99 #[.string s] w fun e w' => e = .returned (.bool (fineN s.data.toList)) ∧ Below w.heap.size w w' := by
  go_enter Try.func99, Try.ntmps99
  go_wp2_with (go_at_call 98; refine (kind_calls _ _).mono ?_; rintro e w' ⟨rfl, hb⟩)
  go_ret
  exact ⟨rfl, hb⟩
theorem var_calls (s : ByteArray) (w : World) : Calls Try.prog 66 #[.string s] w fun e w' => e = .returned (.bool (varN s.data.toList)) ∧ Below w.heap.size w w' := by
  go_enter Try.func66, Try.ntmps66
  go_wp2_with (go_at_call 98; refine (kind_calls _ _).mono ?_; rintro e w' ⟨rfl, hb⟩)
  go_ret
  exact ⟨rfl, hb⟩
set_option maxRecDepth 100000 in
set_option maxHeartbeats 1000000 in
theorem rising_calls (A : Option Addr) (c : Nat) (l : List ByteArray) (w : World) (hr : Kd.string.C w A l.length l) : Calls Try.prog 67 #[.slice A l.length c] w fun e w' => e = .returned (.bool (risingN (bl l))) ∧ Below w.heap.size w w' := by
  have HR := Aside0.mk hr
  have hlen := hr.2.1
  clear hr
  go_enter Try.func67, Try.ntmps67
  go_wp2_with fail
  go_loopg [7] l.length (fun gk i wr => ∃ k : Nat, i = .int .i64 k ∧ Aside0 (gk + k = l.length) ∧ Aside0 (∀ j, j < k → riseAt (bl l) j = true) ∧ Aside0 (Below w.heap.size w wr))
  case atStart => exact ⟨0, rfl, ⟨rfl⟩, ⟨fun j hj => absurd hj (Nat.not_lt_zero _)⟩, ⟨Below.refl _ _⟩⟩
  case round =>
    obtain ⟨k, rfl, HK, HI, HB⟩ := hrel
    by_cases hlt : k < l.length
    · have hltZ : ((k : Int) < (l.length : Int)) := by omega
      obtain ⟨ad, e, h0⟩ := elS HR.out k hlt
      cases e
      replace h0 := pw_cell_below HB.out h0
      have HLT := Aside0.mk hlt
      obtain ⟨bf, hbf⟩ : ∃ b, fineN (l[k]).data.toList = b := ⟨_, rfl⟩
      have HF := Aside0.mk hbf
      have HG := Aside0.mk (bl_getD l k hlt)
      cases bf with
      | false =>
        have HX := Aside0.mk (show risingN (bl l) = false from allUp_no (k := k) (by rw [bl_length]; exact hlt) (by unfold riseAt; rw [HG.out, hbf]; rfl))
        clear hbf
        go_wp2_with (go_at_call 99; refine (fine_calls _ _).mono ?_; rw [HF.out]; rintro e w' ⟨rfl, hb⟩)
        go_ret
        exact ⟨ret_bool HX.out.symm, HB.out.trans (hb.mono HB.out.size)⟩
      | true =>
        clear hbf
        by_cases hk0 : k = 0
        · have hz : ¬ ((0 : Int) < (k : Int)) := by omega
          have HK0 := Aside0.mk hk0
          have HX := Aside0.mk (show riseAt (bl l) k = true from by unfold riseAt; rw [HG.out, HF.out]; simp [hk0])
          clear hk0
          go_wp2_with (go_at_call 99; refine (fine_calls _ _).mono ?_; rw [HF.out]; rintro e w' ⟨rfl, hb⟩)
          go_roundg (gk - 1)
          case measure => have := HK.out; have := HLT.out; omega
          case rel => exact ⟨k + 1, by go_num, ⟨by have := HK.out; have := HLT.out; omega⟩, ⟨upTo_step HI.out HX.out⟩, ⟨HB.out.trans (hb.mono HB.out.size)⟩⟩
        · have hz : ((0 : Int) < (k : Int)) := by omega
          obtain ⟨ad', e', h1⟩ := elS HR.out (k - 1) (by omega)
          cases e'
          have HP := Aside0.mk (bl_getD l (k - 1) (by omega))
          have hc1 : ((k : Int) - 1).toNat = k - 1 := by omega
          have hk1 : (0 : Int) ≤ (k : Int) - 1 := by omega
          have hk2 : (k : Int) - 1 < (l.length : Int) := by omega
          have HK0 := Aside0.mk hk0
          clear hk0
          replace h1 := pw_cell_below HB.out h1
          have HL := Aside0.mk (show ∀ b, Op.bytesLess (l[k - 1]).toList (l[k]).toList = b → riseAt (bl l) k = b from fun b hb => by
            unfold riseAt; rw [HG.out, HF.out, HP.out, ← toList_eq, ← toList_eq, hb]; simp [HK0.out])
          go_wp2_with (go_at_call 99; refine (fine_calls _ _).mono ?_; rw [HF.out]; rintro e w' ⟨rfl, hb⟩; have h1' := pw_cell_below hb h1)
          · have hb2 : (!Op.bytesLess (l[k - 1]).toList (l[k]).toList) = true := by assumption
            have HX := HL.out _ (by simpa using hb2)
            go_ret
            exact ⟨ret_bool (Eq.symm (allUp_no (k := k) (by rw [bl_length]; exact HLT.out) HX)), HB.out.trans (hb.mono HB.out.size)⟩
          · have hb2 : (!Op.bytesLess (l[k - 1]).toList (l[k]).toList) = false := by assumption
            have HX := Aside0.mk (HL.out _ (by simpa using hb2))
            clear hb2
            go_roundg (gk - 1)
            case measure => have := HK.out; have := HLT.out; omega
            case rel => exact ⟨k + 1, by go_num, ⟨by have := HK.out; have := HLT.out; omega⟩, ⟨upTo_step HI.out HX.out⟩, ⟨HB.out.trans (hb.mono HB.out.size)⟩⟩
    · have hltz : ¬ (k : Int) < (l.length : Int) := by omega
      have HKE := Aside0.mk (show k = l.length from by have := HK.out; omega)
      have HX := Aside0.mk (show risingN (bl l) = true from allUp_yes (fun j hj => HI.out j (by rw [bl_length] at hj; rw [HKE.out]; exact hj)))
      go_wp2
      go_ret
      exact ⟨ret_bool HX.out.symm, HB.out⟩
end Go.Proofs.Ytkeeknlfommieaa.PF
