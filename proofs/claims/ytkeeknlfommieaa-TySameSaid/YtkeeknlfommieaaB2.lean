/- name.shape: what a text is by its letters, at every text: a range over a string. -/
import Derived.Test.YtkeeknlfommieaaB0
import Derived.Test.YtkeeknlfommieaaT0
import Derived.Laws.RangeAny
import Derived.WalkLawsBesides
namespace Go.Proofs.Ytkeeknlfommieaa.PF
open Go.RowKit Go.Proofs.YtkeeknlfommieaaW.PrintWords Go.Proofs.YtkeeknlfommieaaW.PrintLast Go.Proofs.YtkeeknlfommieaaW.PrintMore

theorem low_c (c : Nat) (r : Bool) (w : World) (h : lowB c = r) : Calls Try.prog 131 #[.int .i32 c] w fun e w' => e = .returned (.bool r) ∧ w = w' := by
  unfold lowB at h
  by_cases h1 : 97 ≤ c
  · have h1' : ((97 : Int) ≤ (c : Int)) := by omega
    go_enter Try.func131, Try.ntmps131
    go_wp2
    go_ret
    exact ⟨ret_bool (by subst h; rw [Bool.eq_iff_iff]; simp; omega), rfl⟩
  · have h1' : ¬ ((97 : Int) ≤ (c : Int)) := by omega
    go_enter Try.func131, Try.ntmps131
    go_wp2
    go_ret
    exact ⟨ret_bool (by subst h; rw [Bool.eq_iff_iff]; simp; omega), rfl⟩
theorem up_c (c : Nat) (r : Bool) (w : World) (h : upB c = r) : Calls Try.prog 132 #[.int .i32 c] w fun e w' => e = .returned (.bool r) ∧ w = w' := by
  unfold upB at h
  by_cases h1 : 65 ≤ c
  · have h1' : ((65 : Int) ≤ (c : Int)) := by omega
    go_enter Try.func132, Try.ntmps132
    go_wp2
    go_ret
    exact ⟨ret_bool (by subst h; rw [Bool.eq_iff_iff]; simp; omega), rfl⟩
  · have h1' : ¬ ((65 : Int) ≤ (c : Int)) := by omega
    go_enter Try.func132, Try.ntmps132
    go_wp2
    go_ret
    exact ⟨ret_bool (by subst h; rw [Bool.eq_iff_iff]; simp; omega), rfl⟩
theorem dig_c (c : Nat) (r : Bool) (w : World) (h : digB c = r) : Calls Try.prog 133 #[.int .i32 c] w fun e w' => e = .returned (.bool r) ∧ w = w' := by
  unfold digB at h
  by_cases h1 : 48 ≤ c
  · have h1' : ((48 : Int) ≤ (c : Int)) := by omega
    go_enter Try.func133, Try.ntmps133
    go_wp2
    go_ret
    exact ⟨ret_bool (by subst h; rw [Bool.eq_iff_iff]; simp; omega), rfl⟩
  · have h1' : ¬ ((48 : Int) ≤ (c : Int)) := by omega
    go_enter Try.func133, Try.ntmps133
    go_wp2
    go_ret
    exact ⟨ret_bool (by subst h; rw [Bool.eq_iff_iff]; simp; omega), rfl⟩

theorem next_of (s : ByteArray) (pos : Nat) (h : pos < s.size) : ∃ c n : Nat, Utf8.decode s pos = (c, n) ∧ ((c = (s[pos]'h).toNat ∧ n = 1) ∨ (lowB c = false ∧ upB c = false ∧ digB c = false ∧ 128 ≤ (s[pos]'h).toNat)) := by
  by_cases ha : (s[pos]'h).toNat < 128
  · exact ⟨_, _, decode_ascii s pos h ha, .inl ⟨rfl, rfl⟩⟩
  · have := decode_high s pos h (by omega)
    obtain ⟨h1, h2, h3⟩ := no_up_of_high this.1
    exact ⟨_, _, rfl, .inr ⟨h1, h2, h3, by omega⟩⟩
theorem drop_cons (s : ByteArray) (k : Nat) (h : k < s.size) : s.data.toList.drop k = (s[k]'h) :: s.data.toList.drop (k + 1) := by
  rw [List.drop_eq_getElem_cons (by simpa using h)]; rfl

set_option maxRecDepth 100000 in
set_option maxHeartbeats 1000000 in
theorem shape_calls (s : ByteArray) (w : World) : Calls Try.prog 115 #[.string s] w fun e w' => e = .returned (.int .i64 (shapeN s.data.toList)) ∧ Below w.heap.size w w' := by
  by_cases h8 : 8 < s.size
  · have h8' : ((8 : Int) < (s.size : Int)) := by omega
    have HN := Aside0.mk (show shapeN s.data.toList = 0 from by unfold shapeN; rw [if_pos (by simpa using h8)])
    go_enter Try.func115, Try.ntmps115
    go_wp2
    go_ret
    exact ⟨ret_int HN.out.symm, Below.refl _ _⟩
  · have h8' : ¬ ((8 : Int) < (s.size : Int)) := by omega
    have HN := Aside0.mk (show shapeN s.data.toList = shapeS 0 0 s.data.toList from by unfold shapeN; rw [if_neg (by simpa using h8)])
    go_enter Try.func115, Try.ntmps115
    go_wp2_with fail
    go_loopw [3] (fun v wr => ∃ (k : Nat) (q : Int), wr = w.iter s k ∧ v = .int .i64 q ∧ Aside0 (k ≤ s.size ∧ (k = 0 ∧ q = 0 ∨ 0 < k ∧ (q = 1 ∨ q = 2)) ∧ shapeS 0 0 s.data.toList = shapeS k q (s.data.toList.drop k))) (fun _ wr => s.size - wr.iterPos w.heap.size)
    case atStart => exact ⟨0, 0, rfl, rfl, ⟨Nat.zero_le _, .inl ⟨rfl, rfl⟩, rfl⟩⟩
    case round =>
      obtain ⟨k, q, rfl, rfl, HA⟩ := hrel
      by_cases hp : k < s.size
      · obtain ⟨c, n, hcn, hc⟩ := next_of s k hp
        have hnx : ∀ ty, (Instr.next (.pointer (some ⟨w.heap.size, 0, none⟩)) true ty).run Try.prog (w.iter s k) = _ := fun ty => run_next_any w s k ty hp
        rw [hcn] at hnx
        have HCN := Aside0.mk hcn
        have HC := Aside0.mk hc
        have HD := Aside0.mk (drop_cons s k hp)
        clear hcn hc
        obtain ⟨bl, hbl⟩ : ∃ b, lowB c = b := ⟨_, rfl⟩
        obtain ⟨bu, hbu⟩ : ∃ b, upB c = b := ⟨_, rfl⟩
        obtain ⟨bg, hbg⟩ : ∃ b, digB c = b := ⟨_, rfl⟩
        have HL := Aside0.mk hbl
        have HU := Aside0.mk hbu
        have HG := Aside0.mk hbg
        have HP := Aside0.mk hp
        have hasc : (lowB c = true ∨ upB c = true ∨ digB c = true) → c = (s[k]'hp).toNat ∧ n = 1 := by
          intro hh
          rcases HC.out with h | ⟨a1, a2, a3, _⟩
          · exact h
          · simp [a1, a2, a3] at hh
        have hbyte : lowB (s[k]'hp).toNat = bl ∧ upB (s[k]'hp).toNat = bu ∧ digB (s[k]'hp).toNat = bg := by
          rcases HC.out with h | ⟨a1, a2, a3, a4⟩
          · rw [← h.1]; exact ⟨hbl, hbu, hbg⟩
          · obtain ⟨b1, b2, b3⟩ := no_up_of_high a4
            exact ⟨b1.trans (a1.symm.trans hbl), b2.trans (a2.symm.trans hbu), b3.trans (a3.symm.trans hbg)⟩
        have HY := Aside0.mk hbyte
        clear hbyte hbg hbl hbu
        by_cases h0 : k = 0
        · subst h0
          have h0' : (((0 : Nat) : Int) == 0) = true := rfl
          cases bl with
          | true =>
            have hn1 := (hasc (.inl HL.out)).2
            subst hn1
            have HN1 := Aside0.mk (show 0 < s.size from HP.out)
            clear hasc
            go_wp2_with (first | (go_at_call 131; refine (low_c _ _ _ HL.out).mono ?_; rintro e w' ⟨rfl, rfl⟩) | (go_at_call 132; refine (up_c _ _ _ HU.out).mono ?_; rintro e w' ⟨rfl, rfl⟩) | (go_at_call 133; refine (dig_c _ _ _ HG.out).mono ?_; rintro e w' ⟨rfl, rfl⟩))
            go_roundw
            case rel => exact ⟨1, 1, rfl, rfl, ⟨HP.out, .inr ⟨Nat.zero_lt_one, .inl rfl⟩, by rw [HA.out.2.2, HD.out, shapeS_0low _ _ _ HY.out.1]⟩⟩
            case measure => simp; have := HA.out.1; have := HN1.out; omega
          | false =>
            cases bu with
            | true =>
              have hn1 := (hasc (.inr (.inl HU.out))).2
              subst hn1
              have HN1 := Aside0.mk (show 0 < s.size from HP.out)
              clear hasc
              go_wp2_with (first | (go_at_call 131; refine (low_c _ _ _ HL.out).mono ?_; rintro e w' ⟨rfl, rfl⟩) | (go_at_call 132; refine (up_c _ _ _ HU.out).mono ?_; rintro e w' ⟨rfl, rfl⟩) | (go_at_call 133; refine (dig_c _ _ _ HG.out).mono ?_; rintro e w' ⟨rfl, rfl⟩))
              go_roundw
              case rel => exact ⟨1, 2, rfl, rfl, ⟨HP.out, .inr ⟨Nat.zero_lt_one, .inr rfl⟩, by rw [HA.out.2.2, HD.out, shapeS_0up _ _ _ HY.out.1 HY.out.2.1]⟩⟩
              case measure => simp; have := HA.out.1; have := HN1.out; omega
            | false =>
              clear hasc
              go_wp2_with (first | (go_at_call 131; refine (low_c _ _ _ HL.out).mono ?_; rintro e w' ⟨rfl, rfl⟩) | (go_at_call 132; refine (up_c _ _ _ HU.out).mono ?_; rintro e w' ⟨rfl, rfl⟩) | (go_at_call 133; refine (dig_c _ _ _ HG.out).mono ?_; rintro e w' ⟨rfl, rfl⟩))
              go_ret
              exact ⟨ret_int (by rw [HN.out, HA.out.2.2, HD.out, shapeS_0no _ _ _ HY.out.1 HY.out.2.1]), Below.alloc (Below.refl _ _) (Nat.le_refl _) _⟩
        · have hk0 : 0 < k := Nat.pos_of_ne_zero h0
          have h0' : ((k : Int) == 0) = false := beq_eq_false_iff_ne.2 (by omega)
          have h1' : ((0 : Int) < (k : Int)) := by omega
          have hq := HA.out.2.1
          rcases hq with hq | ⟨_, hq⟩
          · exact absurd hq.1 h0
          have HK0 := Aside0.mk hk0
          clear h0 hk0
          rcases hq with rfl | rfl
          all_goals
            cases bl with
            | true =>
              have hn1 := (hasc (.inl HL.out)).2
              subst hn1
              have HN1 := Aside0.mk (show k < s.size from HP.out)
              clear hasc
              go_wp2_with (first | (go_at_call 131; refine (low_c _ _ _ HL.out).mono ?_; rintro e w' ⟨rfl, rfl⟩) | (go_at_call 132; refine (up_c _ _ _ HU.out).mono ?_; rintro e w' ⟨rfl, rfl⟩) | (go_at_call 133; refine (dig_c _ _ _ HG.out).mono ?_; rintro e w' ⟨rfl, rfl⟩))
              go_roundw
              case rel => exact ⟨k + 1, _, rfl, rfl, ⟨HP.out, .inr ⟨Nat.succ_pos _, by first | exact .inl rfl | exact .inr rfl⟩, by rw [HA.out.2.2, HD.out, shapeS_yes _ _ _ _ HK0.out (by rw [HY.out.1]; rfl)]⟩⟩
              case measure => simp; have := HA.out.1; have := HN1.out; omega
            | false =>
              cases bg with
              | true =>
                have hn1 := (hasc (.inr (.inr HG.out))).2
                subst hn1
                have HN1 := Aside0.mk (show k < s.size from HP.out)
                clear hasc
                go_wp2_with (first | (go_at_call 131; refine (low_c _ _ _ HL.out).mono ?_; rintro e w' ⟨rfl, rfl⟩) | (go_at_call 132; refine (up_c _ _ _ HU.out).mono ?_; rintro e w' ⟨rfl, rfl⟩) | (go_at_call 133; refine (dig_c _ _ _ HG.out).mono ?_; rintro e w' ⟨rfl, rfl⟩))
                go_roundw
                case rel => exact ⟨k + 1, _, rfl, rfl, ⟨HP.out, .inr ⟨Nat.succ_pos _, by first | exact .inl rfl | exact .inr rfl⟩, by rw [HA.out.2.2, HD.out, shapeS_yes _ _ _ _ HK0.out (by rw [HY.out.1, HY.out.2.2]; rfl)]⟩⟩
                case measure => simp; have := HA.out.1; have := HN1.out; omega
              | false =>
                cases bu with
                | true =>
                  have hn1 := (hasc (.inr (.inl HU.out))).2
                  subst hn1
                  have HN1 := Aside0.mk (show k < s.size from HP.out)
                  clear hasc
                  first
                  | (go_wp2_with (first | (go_at_call 131; refine (low_c _ _ _ HL.out).mono ?_; rintro e w' ⟨rfl, rfl⟩) | (go_at_call 132; refine (up_c _ _ _ HU.out).mono ?_; rintro e w' ⟨rfl, rfl⟩) | (go_at_call 133; refine (dig_c _ _ _ HG.out).mono ?_; rintro e w' ⟨rfl, rfl⟩)); go_roundw; (case rel => exact ⟨k + 1, _, rfl, rfl, ⟨HP.out, .inr ⟨Nat.succ_pos _, by first | exact .inl rfl | exact .inr rfl⟩, by rw [HA.out.2.2, HD.out, shapeS_yes _ _ _ _ HK0.out (by rw [HY.out.1, HY.out.2.1, HY.out.2.2]; rfl)]⟩⟩); (case measure => simp; have := HA.out.1; have := HN1.out; omega))
                  | (go_wp2_with (first | (go_at_call 131; refine (low_c _ _ _ HL.out).mono ?_; rintro e w' ⟨rfl, rfl⟩) | (go_at_call 132; refine (up_c _ _ _ HU.out).mono ?_; rintro e w' ⟨rfl, rfl⟩) | (go_at_call 133; refine (dig_c _ _ _ HG.out).mono ?_; rintro e w' ⟨rfl, rfl⟩)); go_ret; exact ⟨ret_int (by rw [HN.out, HA.out.2.2, HD.out, shapeS_no _ _ _ _ HK0.out (by rw [HY.out.1, HY.out.2.1, HY.out.2.2]; rfl)]), Below.alloc (Below.refl _ _) (Nat.le_refl _) _⟩)
                | false =>
                  clear hasc
                  (go_wp2_with (first | (go_at_call 131; refine (low_c _ _ _ HL.out).mono ?_; rintro e w' ⟨rfl, rfl⟩) | (go_at_call 132; refine (up_c _ _ _ HU.out).mono ?_; rintro e w' ⟨rfl, rfl⟩) | (go_at_call 133; refine (dig_c _ _ _ HG.out).mono ?_; rintro e w' ⟨rfl, rfl⟩)); go_ret; exact ⟨ret_int (by rw [HN.out, HA.out.2.2, HD.out, shapeS_no _ _ _ _ HK0.out (by rw [HY.out.1, HY.out.2.1, HY.out.2.2]; rfl)]), Below.alloc (Below.refl _ _) (Nat.le_refl _) _⟩)
      · have hnx : ∀ ty, (Instr.next (.pointer (some ⟨w.heap.size, 0, none⟩)) true ty).run Try.prog (w.iter s k) = _ := fun ty => run_next_end w s k ty hp
        have hke : k = s.size := by have := HA.out.1; omega
        have HKE := Aside0.mk hke
        clear hke
        go_wp2
        go_ret
        refine ⟨ret_int ?_, Below.alloc (Below.refl _ _) (Nat.le_refl _) _⟩
        have hd : s.data.toList.drop k = [] := by rw [HKE.out]; simp
        rw [HN.out, HA.out.2.2, hd]
        rcases HA.out.2.1 with ⟨h0, hq⟩ | ⟨h0, _⟩
        · rw [h0, hq, shapeS_0nil]
        · rw [shapeS_end _ _ h0]
end Go.Proofs.Ytkeeknlfommieaa.PF
