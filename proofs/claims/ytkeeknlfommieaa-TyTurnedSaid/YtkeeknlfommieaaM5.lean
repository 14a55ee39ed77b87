/- The sort's merge: the walk where one element alone stands behind. · The sort's merge: the walk. · The sort's merge: whole. · The sort's merge at ty.field. · slices.SortStableFunc at ty.field: up to 60 elements. · slices.SortStableFunc at ty.field: 20, 40 and up to 60 elements. -/
import Derived.Test.YtkeeknlfommieaaM4
import Derived.Test.YtkeeknlfommieaaM1
namespace Go.Proofs.Ytkeeknlfommieaa.PF
open Go.Proofs Go.Shelf Go.RowKit Go.Lib Go.Sort
variable {P : Program} {α : Type} [Inhabited α]

set_option maxHeartbeats 4000000 in
set_option maxRecDepth 1000000 in
theorem symMerge_last (L : LF P) (F128 : P.funcs[128]? = some Try.f128) (k : Nat) (aE : ∀ w, (isAgg 89).run P w = .ok true w) (zE : ∀ w, (Go.sizeOf 89).run P w = .ok k w) (enc : α → List Value) (cf : α → α → Int) (hS : SWO (ltOf cf)) (g : Nat) (cb : Array Value) (blk off cap a m : Nat) (d0 d : Array α) (w0 w : World)
    (eg : ∀ args w, (callFunc g args).run P w = .ok (.enter g args) w) (hC : CmpLays P g cb enc k cf blk off d.size w0)
    (R : RowK enc k w0 blk off d0) (hs : d0.size = d.size) (S : SWK enc k w0 blk off d w) (ham : a + 1 < m) (hb : m + 1 ≤ d.size) (hsz : d.size < 4611686018427387904) (hd : SortedIn (ltOf cf) a m d) :
    Calls P 128 #[.slice (some ⟨blk, off, none⟩) d.size cap, .int .i64 a, .int .i64 m, .int .i64 ((m + 1 : Nat) : Int), .func (.func g) #[] cb] w fun e w' => e = .returned (.tuple #[]) ∧ ∃ e', PermIn a (m + 1) d e' ∧ SortedIn (ltOf cf) a (m + 1) e' ∧ SWK enc k w0 blk off e' w' := by
  have mixed := L.mixed; have t0 := L.t0; have a0 := L.a0; have z0 := L.z0; have v0 := L.v0; have t3 := L.t3; have a3 := L.a3; have z3 := L.z3; have v3 := L.v3; have t4 := L.t4; have a4 := L.a4; have z4 := L.z4; have v4 := L.v4; have t87 := L.t87; have a87 := L.a87; have z87 := L.z87; have v87 := L.v87; have t91 := L.t91; have a91 := L.a91; have z91 := L.z91; have v91 := L.v91; have t108 := L.t108; have a108 := L.a108; have z108 := L.z108; have v108 := L.v108
  have S0 : Aside (SWK enc k w0 blk off d w) := S
  have HC : Aside (CmpLays P g cb enc k cf blk off d.size w0) := hC
  have HD : Aside (SortedIn (ltOf cf) a m d) := hd
  clear S hC hd
  have r0 : IntKind.i64.wrap ((m : Int) - (a : Int)) = ((m - a : Nat) : Int) := by rw [IntKind.wrap_i64]; omega
  have r0' : (((m - a : Nat) : Int) == 1) = false := by rw [beq_eq_false_iff_ne]; omega
  have r1 : IntKind.i64.wrap (((m + 1 : Nat) : Int) - (m : Int)) = 1 := by rw [IntKind.wrap_i64]; omega
  have r1' : IntKind.i64.wrap ((m : Int) + 1 - (m : Int)) = 1 := by rw [IntKind.wrap_i64]; omega
  go_enter F128, Try.ntmps128
  go_wp2
  go_loopg [14, 15] (m - a) (fun kx s14 s15 wr => ∃ (i j : Nat), s14 = .int .i64 i ∧ s15 = .int .i64 j ∧ a ≤ i ∧ i ≤ j ∧ j ≤ m ∧ j - i ≤ kx ∧ (i = a ∨ ltOf cf d[m]! d[i - 1]! = false) ∧ (j = m ∨ ltOf cf d[m]! d[j]! = true) ∧ Aside (SWK enc k w0 blk off d wr))
  case atStart => exact ⟨a, m, rfl, rfl, Nat.le_refl _, by omega, Nat.le_refl _, Nat.le_refl _, .inl rfl, .inl rfl, S0⟩
  case round =>
    clear S0
    obtain ⟨i, j, rfl, rfl, hai, hij, hjb, hkx, hI, hJ, S1⟩ := hrel
    by_cases hlt : i < j
    · have hltz : (i : Int) < (j : Int) := by omega
      obtain ⟨h, hh⟩ : ∃ h, (i + j) / 2 = h := ⟨_, rfl⟩
      have r2 : IntKind.i64.wrap ((i : Int) + (j : Int)) = (i : Int) + (j : Int) := by rw [IntKind.wrap_i64]; omega
      have hq : ((i : Int) + (j : Int)) / 2 = (h : Int) := by omega
      go_wp2_with fail
      obtain ⟨xh, hxh⟩ : ∃ x, d[h]! = x := ⟨_, rfl⟩
      obtain ⟨xa, hxa⟩ : ∃ x, d[m]! = x := ⟨_, rfl⟩
      have p0 : (0 : Int) ≤ (h : Int) := by omega
      have p1 : (0 : Int) ≤ (m : Int) := by omega
      have b0 : (h : Int) < (d.size : Int) := by omega
      have b1 : (m : Int) < (d.size : Int) := by omega
      have lj := fun n os => S1.out.ld R hs.symm P h (by omega) n os
      have lp := fun n os => S1.out.ld R hs.symm P m (by omega) n os
      have hcg := fun n os => S1.out.cmp HC.out rfl xa xh n os
      rw [hxh] at lj
      rw [hxa] at lp
      have HX : Hid (d[h]! = xh ∧ d[m]! = xa) := ⟨hxh, hxa⟩
      clear hxh hxa
      have HIJ : Hid ((i = a ∨ ltOf cf d[m]! d[i - 1]! = false) ∧ (j = m ∨ ltOf cf d[m]! d[j]! = true)) := ⟨hI, hJ⟩
      clear hI hJ
      by_cases hlv : cf xa xh < 0
      · go_quiet_grown (first | (go_at_fn g; refine Calls.grown_of (hcg _ _)))
        go_wp2_with fail
        go_roundg (h - i)
        case measure => omega
        case rel => exact ⟨i, h, rfl, by go_num, hai, by omega, by omega, Nat.le_refl _, HIJ.out.1, .inr (by rw [HX.out.1, HX.out.2]; exact decide_eq_true hlv), S1.out.grown _ _⟩
      · go_quiet_grown (first | (go_at_fn g; refine Calls.grown_of (hcg _ _)))
        go_wp2_with fail
        go_roundg (j - (h + 1))
        case measure => omega
        case rel => exact ⟨h + 1, j, by go_num, rfl, by omega, by omega, hjb, Nat.le_refl _, .inr (by rw [Nat.add_sub_cancel, HX.out.1, HX.out.2]; exact decide_eq_false (by omega)), HIJ.out.2, S1.out.grown _ _⟩
    · obtain rfl : i = j := by omega
      have HE : Hid (∀ e : Array α, (∀ q, e[q]! = rotS d i m (m + 1) q) → SortedIn (ltOf cf) a (m + 1) e) := fun e he => merge_last hS hai hjb HD.out hI hJ he
      clear hI hJ hkx hij hlt
      go_wp2
      go_loopg [17] (m - i) (fun _kx s17 wr => ∃ (q : Nat), s17 = .int .i64 ((m - q : Nat) : Int) ∧ q ≤ m - i ∧ m - i - q ≤ _kx ∧ Aside (SWK enc k w0 blk off (bubD d m q) wr))
      case atStart => exact ⟨0, rfl, Nat.zero_le _, by omega, S1⟩
      case round =>
        clear S1
        obtain ⟨q, rfl, hq, hkq, S1⟩ := hrel
        by_cases hlt : i < m - q
        · obtain ⟨z, hz⟩ : ∃ z, m - q = z + 1 := ⟨m - q - 1, by omega⟩
          have hltz : ((z + 1 : Nat) : Int) > (i : Int) := by omega
          have hltz' : ((z : Int) + 1) > (i : Int) := by omega
          have hltz'' : (i : Int) < ((z : Int) + 1) := by omega
          obtain ⟨dk, hdk⟩ : ∃ dk, bubD d m q = dk := ⟨_, rfl⟩
          have hds : dk.size = d.size := by rw [← hdk]; exact size_bubD d m q
          rw [hdk] at S1
          rw [hz]
          go_wp2_with fail
          have ra44 : IntKind.i64.wrap ((z : Int) + 1 - 1) = (z : Int) := by rw [IntKind.wrap_i64]; omega
          have ra45 : IntKind.i64.wrap ((z : Int)) = (z : Int) := by rw [IntKind.wrap_i64]; omega
          have p44 : (0 : Int) ≤ (z : Int) := by omega
          have p45 : (0 : Int) ≤ (z : Int) + 1 := by omega
          have b44 : (z : Int) < (d.size : Int) := by omega
          have b45 : (z : Int) + 1 < (d.size : Int) := by omega
          have t45 : ((z : Int) + 1).toNat = z + 1 := by omega
          have S2 : Aside (SWK enc k w0 blk off (swp dk (z + 1) (z)) ((wr.drew.setCells blk (off + (z + 1) * k) (enc dk[z]!)).setCells blk (off + (z) * k) (enc dk[z + 1]!))) := S1.out.swapped R (z + 1) (z) (by omega) (by omega)
          have l44a := S1.out.ld1 R (by omega) P (z + 1) (by omega)
          have l44b := S1.out.ld1 R (by omega) P (z) (by omega)
          have s44a := S1.out.st1 R (by omega) P (z + 1) (by omega) dk[z]!
          have s44b := S1.out.st2 R (by omega) P (z + 1) (z) (by omega) (by omega) dk[z]! dk[z + 1]!
          have n44a : (enc dk[z + 1]!).length = k := R.hk _
          have n44b : (enc dk[z]!).length = k := R.hk _
          generalize enc dk[z + 1]! = cI44 at S2 l44a s44b n44a
          generalize enc dk[z]! = cJ44 at S2 l44b s44a s44b n44b
          clear S1
          go_wp2_with fail
          go_big_region_o
          clear l44a l44b s44a s44b
          generalize (wr.drew.setCells blk (off + (z + 1) * k) cJ44).setCells blk (off + (z) * k) cI44 = w2 at S2 ⊢
          go_wp2
          go_roundg (m - i - (q + 1))
          case measure => omega
          case rel => exact ⟨q + 1, by rw [show m - (q + 1) = z by omega], by omega, Nat.le_refl _, by rw [bubD, hdk, hz]; exact S2⟩
        · obtain ⟨y, hy⟩ : ∃ y, m - q = y := ⟨_, rfl⟩
          have hnz : ¬ ((y : Int) > (i : Int)) := by omega
          rw [hy]
          go_wp2
          refine bodyPost_ret (results_none rfl _ _ _) rfl ?_
          have hqe : m - q = i := by omega
          exact ⟨rfl, _, bubD_perm d m a (m + 1) (by omega) hb q (by omega), HE.out _ (fun x => by rw [bubD_rot d m q (by omega) (by omega), hqe]), S1.out⟩
end Go.Proofs.Ytkeeknlfommieaa.PF
namespace Go.Proofs.Ytkeeknlfommieaa.PF
open Go.Proofs Go.Shelf Go.RowKit Go.Lib Go.Sort
variable {P : Program} {α : Type} [Inhabited α]

/-- What a merge's call leaves. -/
def MergeCalls (P : Program) (k : Nat) (enc : α → List Value) (cf : α → α → Int) (g : Nat) (cb : Array Value) (blk off cap size : Nat) (w0 : World) (a m b : Nat) (d : Array α) (W : World) : Prop :=
  Calls P 128 #[.slice (some ⟨blk, off, none⟩) size cap, .int .i64 a, .int .i64 m, .int .i64 b, .func (.func g) #[] cb] W fun e w' => e = .returned (.tuple #[]) ∧ ∃ e', PermIn a b d e' ∧ SortedIn (ltOf cf) a b e' ∧ SWK enc k w0 blk off e' w'

set_option maxHeartbeats 40000000 in
set_option maxRecDepth 1000000 in
theorem symMerge_step (L : LF P) (F128 : P.funcs[128]? = some Try.f128) (F140 : P.funcs[140]? = some Try.f140) (F144 : P.funcs[144]? = some Try.f144) (k : Nat) (aE : ∀ w, (isAgg 89).run P w = .ok true w) (zE : ∀ w, (Go.sizeOf 89).run P w = .ok k w) (enc : α → List Value) (cf : α → α → Int) (hS : SWO (ltOf cf)) (g : Nat) (cb : Array Value) (blk off cap a m b : Nat) (d0 d : Array α) (w0 w : World)
    (eg : ∀ args w, (callFunc g args).run P w = .ok (.enter g args) w) (hC : CmpLays P g cb enc k cf blk off d.size w0)
    (R : RowK enc k w0 blk off d0) (hs : d0.size = d.size) (S : SWK enc k w0 blk off d w) (ham : a + 1 < m) (hmb : m + 1 < b) (hb : b ≤ d.size) (hsz : d.size < 4611686018427387904) (hd1 : SortedIn (ltOf cf) a m d) (hd2 : SortedIn (ltOf cf) m b d)
    (ih : ∀ (a' m' b' : Nat) (e : Array α) (W : World), b' - a' < b - a → a' < m' → m' < b' → b' ≤ e.size → e.size = d.size → SWK enc k w0 blk off e W → SortedIn (ltOf cf) a' m' e → SortedIn (ltOf cf) m' b' e → MergeCalls P k enc cf g cb blk off cap d.size w0 a' m' b' e W) :
    MergeCalls P k enc cf g cb blk off cap d.size w0 a m b d w := by
  unfold MergeCalls at ih ⊢
  have mixed := L.mixed; have t0 := L.t0; have a0 := L.a0; have z0 := L.z0; have v0 := L.v0; have t3 := L.t3; have a3 := L.a3; have z3 := L.z3; have v3 := L.v3; have t4 := L.t4; have a4 := L.a4; have z4 := L.z4; have v4 := L.v4; have t87 := L.t87; have a87 := L.a87; have z87 := L.z87; have v87 := L.v87; have t91 := L.t91; have a91 := L.a91; have z91 := L.z91; have v91 := L.v91; have t108 := L.t108; have a108 := L.a108; have z108 := L.z108; have v108 := L.v108
  have e140 : ∀ args w, (callFunc 140 args).run P w = .ok (.enter 140 args) w := enters_of F140 (by kernel_rfl) rfl
  have e128 : ∀ args w, (callFunc 128 args).run P w = .ok (.enter 128 args) w := enters_of F128 (by kernel_rfl) rfl
  have S0 : Aside (SWK enc k w0 blk off d w) := S
  have HC : Aside (CmpLays P g cb enc k cf blk off d.size w0) := hC
  have HIH : Aside _ := ih
  have HROT : Aside (∀ (s t : Nat) (W : World), SWK enc k w0 blk off d W → s < m → m < t → t ≤ d.size → Calls P 140 #[.slice (some ⟨blk, off, none⟩) d.size cap, .int .i64 s, .int .i64 m, .int .i64 t, .func (.func g) #[] cb] W fun e w' => e = .returned (.tuple #[]) ∧ ∃ e', Rotated d s m t e' ∧ SWK enc k w0 blk off e' w') :=
    fun s t W h h1 h2 h3 => rotate_gen L F144 F140 k aE zE enc g cb blk off cap s m t d0 d w0 W R hs h h1 h2 h3 hsz
  obtain ⟨mid, hmid⟩ : ∃ mid, (a + b) / 2 = mid := ⟨_, rfl⟩
  obtain ⟨p, hp⟩ : ∃ p, mid + m - 1 = p := ⟨_, rfl⟩
  have HSP : Aside (∀ (s t : Nat) (e : Array α), a ≤ s → s ≤ m → m ≤ t → t ≤ b → mid + m = s + t → (s = a ∨ t = b ∨ ltOf cf d[t]! d[s - 1]! = false) → (s = m ∨ t = m ∨ ltOf cf d[t - 1]! d[s]! = true) → (∀ k, e[k]! = rotS d s m t k) → Split (ltOf cf) a s mid t b e) := by
    intro s t e h1 h2 h3 h4 h5 hX hY he
    have := split_of hS h1 h2 h3 h4 hd1 hd2 hX hY he
    rwa [show s + (t - m) = mid by omega] at this
  clear S hC ih hd1 hd2
  have r0 : IntKind.i64.wrap ((m : Int) - (a : Int)) = ((m - a : Nat) : Int) := by rw [IntKind.wrap_i64]; omega
  have r0' : (((m - a : Nat) : Int) == 1) = false := by rw [beq_eq_false_iff_ne]; omega
  have r1 : IntKind.i64.wrap ((b : Int) - (m : Int)) = ((b - m : Nat) : Int) := by rw [IntKind.wrap_i64]; omega
  have r1' : (((b - m : Nat) : Int) == 1) = false := by rw [beq_eq_false_iff_ne]; omega
  have r2 : IntKind.i64.wrap ((a : Int) + (b : Int)) = (a : Int) + (b : Int) := by rw [IntKind.wrap_i64]; omega
  have r3 : ((a : Int) + (b : Int)) / 2 = (mid : Int) := by omega
  have r4 : IntKind.i64.wrap ((mid : Int) + (m : Int)) = (mid : Int) + (m : Int) := by rw [IntKind.wrap_i64]; omega
  have r5 : IntKind.i64.wrap ((mid : Int) + (m : Int) - 1) = (p : Int) := by rw [IntKind.wrap_i64]; omega
  by_cases hm : mid < m
  · have hmz : (m : Int) > (mid : Int) := by omega
    have r6 : IntKind.i64.wrap ((mid : Int) + (m : Int) - (b : Int)) = ((mid + m - b : Nat) : Int) := by rw [IntKind.wrap_i64]; omega
    go_enter F128, Try.ntmps128
    go_wp2
    go_loopg [20, 21] (b - a) (fun kx s20 s21 wr => ∃ (s r : Nat), s20 = .int .i64 s ∧ s21 = .int .i64 r ∧ (mid + m - b) ≤ s ∧ s ≤ r ∧ r ≤ mid ∧ r - s ≤ kx ∧ (s = (mid + m - b) ∨ ltOf cf d[p - (s - 1)]! d[s - 1]! = false) ∧ (r = mid ∨ ltOf cf d[p - r]! d[r]! = true) ∧ Aside (SWK enc k w0 blk off d wr))
    case atStart => exact ⟨(mid + m - b), mid, by first | rfl | go_num, by first | rfl | go_num, Nat.le_refl _, by omega, Nat.le_refl _, by omega, .inl rfl, .inl rfl, S0⟩
    case round =>
      clear S0
      obtain ⟨s, r, rfl, rfl, hai, hij, hjb, hkx, hI, hJ, S1⟩ := hrel
      by_cases hlt : s < r
      · have hltz : (s : Int) < (r : Int) := by omega
        obtain ⟨c, hc⟩ : ∃ c, (s + r) / 2 = c := ⟨_, rfl⟩
        have r7 : IntKind.i64.wrap ((s : Int) + (r : Int)) = (s : Int) + (r : Int) := by rw [IntKind.wrap_i64]; omega
        have r8 : ((s : Int) + (r : Int)) / 2 = (c : Int) := by omega
        obtain ⟨z, hz⟩ : ∃ z, p - c = z := ⟨_, rfl⟩
        have r9 : IntKind.i64.wrap ((p : Int) - (c : Int)) = (z : Int) := by rw [IntKind.wrap_i64]; omega
        go_wp2_with fail
        obtain ⟨xh, hxh⟩ : ∃ x, d[c]! = x := ⟨_, rfl⟩
        obtain ⟨xa, hxa⟩ : ∃ x, d[z]! = x := ⟨_, rfl⟩
        have p0 : (0 : Int) ≤ (c : Int) := by omega
        have p1 : (0 : Int) ≤ (z : Int) := by omega
        have b0 : (c : Int) < (d.size : Int) := by omega
        have b1 : (z : Int) < (d.size : Int) := by omega
        have lj := fun n os => S1.out.ld R hs.symm P c (by omega) n os
        have lp := fun n os => S1.out.ld R hs.symm P z (by omega) n os
        have hcg := fun n os => S1.out.cmp HC.out rfl xa xh n os
        rw [hxh] at lj
        rw [hxa] at lp
        have HX : Hid (d[c]! = xh ∧ d[z]! = xa) := ⟨hxh, hxa⟩
        clear hxh hxa
        have HIJ : Hid ((s = (mid + m - b) ∨ ltOf cf d[p - (s - 1)]! d[s - 1]! = false) ∧ (r = mid ∨ ltOf cf d[p - r]! d[r]! = true)) := ⟨hI, hJ⟩
        clear hI hJ
        by_cases hlv : cf xa xh < 0
        · go_quiet_grown (first | (go_at_fn g; refine Calls.grown_of (hcg _ _)))
          go_wp2_with fail
          go_roundg (c - s)
          case measure => omega
          case rel => exact ⟨s, c, rfl, by go_num, hai, by omega, by omega, Nat.le_refl _, HIJ.out.1, .inr (by rw [hz, HX.out.1, HX.out.2]; exact decide_eq_true hlv), S1.out.grown _ _⟩
        · go_quiet_grown (first | (go_at_fn g; refine Calls.grown_of (hcg _ _)))
          go_wp2_with fail
          go_roundg (r - (c + 1))
          case measure => omega
          case rel => exact ⟨c + 1, r, by go_num, rfl, by omega, by omega, hjb, Nat.le_refl _, .inr (by rw [Nat.add_sub_cancel, hz, HX.out.1, HX.out.2]; exact decide_eq_false (by omega)), HIJ.out.2, S1.out.grown _ _⟩
      · obtain rfl : s = r := by omega
        obtain ⟨t, ht⟩ : ∃ t, mid + m - s = t := ⟨_, rfl⟩
        have q1 : IntKind.i64.wrap ((mid : Int) + (m : Int) - (s : Int)) = (t : Int) := by rw [IntKind.wrap_i64]; omega
        have hX : s = a ∨ t = b ∨ ltOf cf d[t]! d[s - 1]! = false := by
          rcases hI with h | h
          · omega
          · by_cases h0 : s = a
            · exact .inl h0
            · rw [show p - (s - 1) = t by omega] at h
              exact .inr (.inr h)
        have hY : s = m ∨ t = m ∨ ltOf cf d[t - 1]! d[s]! = true := by
          rcases hJ with h | h
          · omega
          · rw [show p - s = t - 1 by omega] at h
            exact .inr (.inr h)
        have HSPL : Aside (∀ e : Array α, (∀ k, e[k]! = rotS d s m t k) → Split (ltOf cf) a s mid t b e) := fun e he => HSP.out s t e (by omega) (by omega) (by omega) (by omega) (by omega) hX hY he
        clear hX hY hI hJ hkx hij hlt
        have nlt : ¬ (s : Int) < (s : Int) := by omega
        by_cases hrot : s < m ∧ m < t
        · have c1 : (s : Int) < (m : Int) := by omega
          have c2 : (m : Int) < (t : Int) := by omega
          have HR := HROT.out s t wr S1.out hrot.1 hrot.2 (by omega)
          have HA : Aside (∀ e, Rotated d s m t e → PermIn a b d e ∧ Split (ltOf cf) a s mid t b e ∧ e.size = d.size) := fun e h => ⟨permIn_mono d e s t a b (by omega) (by omega) (by omega) h.perm, HSPL.out e h.get, h.perm.1⟩
          by_cases hle : a < s ∧ s < mid
          · have d1 : (a : Int) < (s : Int) := by omega
            have d2 : (s : Int) < (mid : Int) := by omega
            by_cases hri : mid < t ∧ t < b
            · have f1 : (mid : Int) < (t : Int) := by omega
              have f2 : (t : Int) < (b : Int) := by omega
              first
              | (exfalso; omega)
              | (go_wp2_with (first | (go_at_fn 140; refine HR.mono ?_; rintro e w1 ⟨rfl, e1, hro, S2p⟩; have S2 : Aside _ := S2p; clear S2p; have HE1 : Aside _ := HA.out e1 hro; clear hro S1) | (go_at_fn 128; refine (HIH.out a s mid e1 _ (by omega) hle.1 hle.2 (by have := HE1.out.2.2; omega) HE1.out.2.2 S2 HE1.out.2.1.s1 HE1.out.2.1.s2).mono ?_; rintro e w2 ⟨rfl, e2, hp2, hq2, S3p⟩; have S3 : Aside _ := S3p; clear S3p; have HP2 : Aside (PermIn a mid e1 e2 ∧ SortedIn (ltOf cf) a mid e2) := ⟨hp2, hq2⟩; clear hp2 hq2) | (go_at_fn 128; refine (HIH.out mid t b e2 _ (by omega) hri.1 hri.2 (by have := HE1.out.2.2; have := HP2.out.1.1; omega) (HP2.out.1.1.trans HE1.out.2.2) S3.out (sorted_other HE1.out.2.1.s3 HP2.out.1 (.inr (Nat.le_refl _))) (sorted_other HE1.out.2.1.s4 HP2.out.1 (.inr (by omega)))).mono ?_; rintro e w3 ⟨rfl, e3, hp3, hq3, S4p⟩; have S4 : Aside _ := S4p; clear S4p; have HP3 : Aside (PermIn mid b e2 e3 ∧ SortedIn (ltOf cf) mid b e3) := ⟨hp3, hq3⟩; clear hp3 hq3))
                 go_end0
                 have hm := merged HE1.out.2.1 (by have := HE1.out.2.2; omega) (by omega) (by omega) HP2.out.1 HP2.out.2 HP3.out.1 HP3.out.2
                 exact ⟨rfl, _, permIn_trans _ _ _ a b HE1.out.1 hm.1, hm.2, S4.out⟩)
            · have ff : ¬ (mid : Int) < (t : Int) ∨ ((mid : Int) < (t : Int) ∧ ¬ (t : Int) < (b : Int)) := by omega
              rcases ff with f1 | ⟨f1, f2⟩
              · first
                | (exfalso; omega)
                | (go_wp2_with (first | (go_at_fn 140; refine HR.mono ?_; rintro e w1 ⟨rfl, e1, hro, S2p⟩; have S2 : Aside _ := S2p; clear S2p; have HE1 : Aside _ := HA.out e1 hro; clear hro S1) | (go_at_fn 128; refine (HIH.out a s mid e1 _ (by omega) hle.1 hle.2 (by have := HE1.out.2.2; omega) HE1.out.2.2 S2 HE1.out.2.1.s1 HE1.out.2.1.s2).mono ?_; rintro e w2 ⟨rfl, e2, hp2, hq2, S3p⟩; have S3 : Aside _ := S3p; clear S3p; have HP2 : Aside (PermIn a mid e1 e2 ∧ SortedIn (ltOf cf) a mid e2) := ⟨hp2, hq2⟩; clear hp2 hq2))
                   go_end0
                   have hm := merged HE1.out.2.1 (by have := HE1.out.2.2; omega) (by omega) (by omega) HP2.out.1 HP2.out.2 (permIn_refl e2 mid b) (sorted_other (right_of HE1.out.2.1 (by omega)) HP2.out.1 (.inr (Nat.le_refl _)))
                   exact ⟨rfl, _, permIn_trans _ _ _ a b HE1.out.1 hm.1, hm.2, S3.out⟩)
              · first
                | (exfalso; omega)
                | (go_wp2_with (first | (go_at_fn 140; refine HR.mono ?_; rintro e w1 ⟨rfl, e1, hro, S2p⟩; have S2 : Aside _ := S2p; clear S2p; have HE1 : Aside _ := HA.out e1 hro; clear hro S1) | (go_at_fn 128; refine (HIH.out a s mid e1 _ (by omega) hle.1 hle.2 (by have := HE1.out.2.2; omega) HE1.out.2.2 S2 HE1.out.2.1.s1 HE1.out.2.1.s2).mono ?_; rintro e w2 ⟨rfl, e2, hp2, hq2, S3p⟩; have S3 : Aside _ := S3p; clear S3p; have HP2 : Aside (PermIn a mid e1 e2 ∧ SortedIn (ltOf cf) a mid e2) := ⟨hp2, hq2⟩; clear hp2 hq2))
                   go_end0
                   have hm := merged HE1.out.2.1 (by have := HE1.out.2.2; omega) (by omega) (by omega) HP2.out.1 HP2.out.2 (permIn_refl e2 mid b) (sorted_other (right_of HE1.out.2.1 (by omega)) HP2.out.1 (.inr (Nat.le_refl _)))
                   exact ⟨rfl, _, permIn_trans _ _ _ a b HE1.out.1 hm.1, hm.2, S3.out⟩)
          · have dd : ¬ (a : Int) < (s : Int) ∨ ((a : Int) < (s : Int) ∧ ¬ (s : Int) < (mid : Int)) := by omega
            rcases dd with d1 | ⟨d1, d2⟩
            · by_cases hri : mid < t ∧ t < b
              · have f1 : (mid : Int) < (t : Int) := by omega
                have f2 : (t : Int) < (b : Int) := by omega
                first
                | (exfalso; omega)
                | (go_wp2_with (first | (go_at_fn 140; refine HR.mono ?_; rintro e w1 ⟨rfl, e1, hro, S2p⟩; have S2 : Aside _ := S2p; clear S2p; have HE1 : Aside _ := HA.out e1 hro; clear hro S1) | (go_at_fn 128; refine (HIH.out mid t b e1 _ (by omega) hri.1 hri.2 (by have := HE1.out.2.2; have := (permIn_refl e1 a mid).1; omega) ((permIn_refl e1 a mid).1.trans HE1.out.2.2) S2.out (sorted_other HE1.out.2.1.s3 (permIn_refl e1 a mid) (.inr (Nat.le_refl _))) (sorted_other HE1.out.2.1.s4 (permIn_refl e1 a mid) (.inr (by omega)))).mono ?_; rintro e w3 ⟨rfl, e3, hp3, hq3, S4p⟩; have S4 : Aside _ := S4p; clear S4p; have HP3 : Aside (PermIn mid b e1 e3 ∧ SortedIn (ltOf cf) mid b e3) := ⟨hp3, hq3⟩; clear hp3 hq3))
                   go_end0
                   have hm := merged HE1.out.2.1 (by have := HE1.out.2.2; omega) (by omega) (by omega) (permIn_refl e1 a mid) (left_of HE1.out.2.1 (by omega)) HP3.out.1 HP3.out.2
                   exact ⟨rfl, _, permIn_trans _ _ _ a b HE1.out.1 hm.1, hm.2, S4.out⟩)
              · have ff : ¬ (mid : Int) < (t : Int) ∨ ((mid : Int) < (t : Int) ∧ ¬ (t : Int) < (b : Int)) := by omega
                rcases ff with f1 | ⟨f1, f2⟩
                · first
                  | (exfalso; omega)
                  | (go_wp2_with (first | (go_at_fn 140; refine HR.mono ?_; rintro e w1 ⟨rfl, e1, hro, S2p⟩; have S2 : Aside _ := S2p; clear S2p; have HE1 : Aside _ := HA.out e1 hro; clear hro S1))
                     go_end0
                     have hm := merged HE1.out.2.1 (by have := HE1.out.2.2; omega) (by omega) (by omega) (permIn_refl e1 a mid) (left_of HE1.out.2.1 (by omega)) (permIn_refl e1 mid b) (sorted_other (right_of HE1.out.2.1 (by omega)) (permIn_refl e1 a mid) (.inr (Nat.le_refl _)))
                     exact ⟨rfl, _, permIn_trans _ _ _ a b HE1.out.1 hm.1, hm.2, S2.out⟩)
                · first
                  | (exfalso; omega)
                  | (go_wp2_with (first | (go_at_fn 140; refine HR.mono ?_; rintro e w1 ⟨rfl, e1, hro, S2p⟩; have S2 : Aside _ := S2p; clear S2p; have HE1 : Aside _ := HA.out e1 hro; clear hro S1))
                     go_end0
                     have hm := merged HE1.out.2.1 (by have := HE1.out.2.2; omega) (by omega) (by omega) (permIn_refl e1 a mid) (left_of HE1.out.2.1 (by omega)) (permIn_refl e1 mid b) (sorted_other (right_of HE1.out.2.1 (by omega)) (permIn_refl e1 a mid) (.inr (Nat.le_refl _)))
                     exact ⟨rfl, _, permIn_trans _ _ _ a b HE1.out.1 hm.1, hm.2, S2.out⟩)
            · by_cases hri : mid < t ∧ t < b
              · have f1 : (mid : Int) < (t : Int) := by omega
                have f2 : (t : Int) < (b : Int) := by omega
                first
                | (exfalso; omega)
                | (go_wp2_with (first | (go_at_fn 140; refine HR.mono ?_; rintro e w1 ⟨rfl, e1, hro, S2p⟩; have S2 : Aside _ := S2p; clear S2p; have HE1 : Aside _ := HA.out e1 hro; clear hro S1) | (go_at_fn 128; refine (HIH.out mid t b e1 _ (by omega) hri.1 hri.2 (by have := HE1.out.2.2; have := (permIn_refl e1 a mid).1; omega) ((permIn_refl e1 a mid).1.trans HE1.out.2.2) S2.out (sorted_other HE1.out.2.1.s3 (permIn_refl e1 a mid) (.inr (Nat.le_refl _))) (sorted_other HE1.out.2.1.s4 (permIn_refl e1 a mid) (.inr (by omega)))).mono ?_; rintro e w3 ⟨rfl, e3, hp3, hq3, S4p⟩; have S4 : Aside _ := S4p; clear S4p; have HP3 : Aside (PermIn mid b e1 e3 ∧ SortedIn (ltOf cf) mid b e3) := ⟨hp3, hq3⟩; clear hp3 hq3))
                   go_end0
                   have hm := merged HE1.out.2.1 (by have := HE1.out.2.2; omega) (by omega) (by omega) (permIn_refl e1 a mid) (left_of HE1.out.2.1 (by omega)) HP3.out.1 HP3.out.2
                   exact ⟨rfl, _, permIn_trans _ _ _ a b HE1.out.1 hm.1, hm.2, S4.out⟩)
              · have ff : ¬ (mid : Int) < (t : Int) ∨ ((mid : Int) < (t : Int) ∧ ¬ (t : Int) < (b : Int)) := by omega
                rcases ff with f1 | ⟨f1, f2⟩
                · first
                  | (exfalso; omega)
                  | (go_wp2_with (first | (go_at_fn 140; refine HR.mono ?_; rintro e w1 ⟨rfl, e1, hro, S2p⟩; have S2 : Aside _ := S2p; clear S2p; have HE1 : Aside _ := HA.out e1 hro; clear hro S1))
                     go_end0
                     have hm := merged HE1.out.2.1 (by have := HE1.out.2.2; omega) (by omega) (by omega) (permIn_refl e1 a mid) (left_of HE1.out.2.1 (by omega)) (permIn_refl e1 mid b) (sorted_other (right_of HE1.out.2.1 (by omega)) (permIn_refl e1 a mid) (.inr (Nat.le_refl _)))
                     exact ⟨rfl, _, permIn_trans _ _ _ a b HE1.out.1 hm.1, hm.2, S2.out⟩)
                · first
                  | (exfalso; omega)
                  | (go_wp2_with (first | (go_at_fn 140; refine HR.mono ?_; rintro e w1 ⟨rfl, e1, hro, S2p⟩; have S2 : Aside _ := S2p; clear S2p; have HE1 : Aside _ := HA.out e1 hro; clear hro S1))
                     go_end0
                     have hm := merged HE1.out.2.1 (by have := HE1.out.2.2; omega) (by omega) (by omega) (permIn_refl e1 a mid) (left_of HE1.out.2.1 (by omega)) (permIn_refl e1 mid b) (sorted_other (right_of HE1.out.2.1 (by omega)) (permIn_refl e1 a mid) (.inr (Nat.le_refl _)))
                     exact ⟨rfl, _, permIn_trans _ _ _ a b HE1.out.1 hm.1, hm.2, S2.out⟩)
        · have HE1 : Aside (PermIn a b d d ∧ Split (ltOf cf) a s mid t b d ∧ d.size = d.size) := ⟨permIn_refl d a b, HSPL.out d (by
              rcases Nat.lt_or_ge s m with h | h
              · have : t = m := by omega
                subst this
                exact fun k => rot_none_right d s t k (by omega)
              · have : s = m := by omega
                subst this
                exact fun k => rot_none_left d s t k (by omega)), rfl⟩
          have S2 := S1
          have c12 : (decide ((s : Int) < (m : Int)) && decide ((m : Int) < (t : Int))) = false := by rw [Bool.and_eq_false_iff]; simp only [decide_eq_false_iff_not]; omega
          by_cases c1 : (s : Int) < (m : Int)
          · have c2 : ¬ (m : Int) < (t : Int) := by omega
            by_cases hle : a < s ∧ s < mid
            · have d1 : (a : Int) < (s : Int) := by omega
              have d2 : (s : Int) < (mid : Int) := by omega
              by_cases hri : mid < t ∧ t < b
              · have f1 : (mid : Int) < (t : Int) := by omega
                have f2 : (t : Int) < (b : Int) := by omega
                first
                | (exfalso; omega)
                | (go_wp2_with (first | (go_at_fn 128; refine (HIH.out a s mid d _ (by omega) hle.1 hle.2 (by have := HE1.out.2.2; omega) HE1.out.2.2 S2 HE1.out.2.1.s1 HE1.out.2.1.s2).mono ?_; rintro e w2 ⟨rfl, e2, hp2, hq2, S3p⟩; have S3 : Aside _ := S3p; clear S3p; have HP2 : Aside (PermIn a mid d e2 ∧ SortedIn (ltOf cf) a mid e2) := ⟨hp2, hq2⟩; clear hp2 hq2) | (go_at_fn 128; refine (HIH.out mid t b e2 _ (by omega) hri.1 hri.2 (by have := HE1.out.2.2; have := HP2.out.1.1; omega) (HP2.out.1.1.trans HE1.out.2.2) S3.out (sorted_other HE1.out.2.1.s3 HP2.out.1 (.inr (Nat.le_refl _))) (sorted_other HE1.out.2.1.s4 HP2.out.1 (.inr (by omega)))).mono ?_; rintro e w3 ⟨rfl, e3, hp3, hq3, S4p⟩; have S4 : Aside _ := S4p; clear S4p; have HP3 : Aside (PermIn mid b e2 e3 ∧ SortedIn (ltOf cf) mid b e3) := ⟨hp3, hq3⟩; clear hp3 hq3))
                   go_end0
                   have hm := merged HE1.out.2.1 (by have := HE1.out.2.2; omega) (by omega) (by omega) HP2.out.1 HP2.out.2 HP3.out.1 HP3.out.2
                   exact ⟨rfl, _, permIn_trans _ _ _ a b HE1.out.1 hm.1, hm.2, S4.out⟩)
              · have ff : ¬ (mid : Int) < (t : Int) ∨ ((mid : Int) < (t : Int) ∧ ¬ (t : Int) < (b : Int)) := by omega
                rcases ff with f1 | ⟨f1, f2⟩
                · first
                  | (exfalso; omega)
                  | (go_wp2_with (first | (go_at_fn 128; refine (HIH.out a s mid d _ (by omega) hle.1 hle.2 (by have := HE1.out.2.2; omega) HE1.out.2.2 S2 HE1.out.2.1.s1 HE1.out.2.1.s2).mono ?_; rintro e w2 ⟨rfl, e2, hp2, hq2, S3p⟩; have S3 : Aside _ := S3p; clear S3p; have HP2 : Aside (PermIn a mid d e2 ∧ SortedIn (ltOf cf) a mid e2) := ⟨hp2, hq2⟩; clear hp2 hq2))
                     go_end0
                     have hm := merged HE1.out.2.1 (by have := HE1.out.2.2; omega) (by omega) (by omega) HP2.out.1 HP2.out.2 (permIn_refl e2 mid b) (sorted_other (right_of HE1.out.2.1 (by omega)) HP2.out.1 (.inr (Nat.le_refl _)))
                     exact ⟨rfl, _, permIn_trans _ _ _ a b HE1.out.1 hm.1, hm.2, S3.out⟩)
                · first
                  | (exfalso; omega)
                  | (go_wp2_with (first | (go_at_fn 128; refine (HIH.out a s mid d _ (by omega) hle.1 hle.2 (by have := HE1.out.2.2; omega) HE1.out.2.2 S2 HE1.out.2.1.s1 HE1.out.2.1.s2).mono ?_; rintro e w2 ⟨rfl, e2, hp2, hq2, S3p⟩; have S3 : Aside _ := S3p; clear S3p; have HP2 : Aside (PermIn a mid d e2 ∧ SortedIn (ltOf cf) a mid e2) := ⟨hp2, hq2⟩; clear hp2 hq2))
                     go_end0
                     have hm := merged HE1.out.2.1 (by have := HE1.out.2.2; omega) (by omega) (by omega) HP2.out.1 HP2.out.2 (permIn_refl e2 mid b) (sorted_other (right_of HE1.out.2.1 (by omega)) HP2.out.1 (.inr (Nat.le_refl _)))
                     exact ⟨rfl, _, permIn_trans _ _ _ a b HE1.out.1 hm.1, hm.2, S3.out⟩)
            · have dd : ¬ (a : Int) < (s : Int) ∨ ((a : Int) < (s : Int) ∧ ¬ (s : Int) < (mid : Int)) := by omega
              rcases dd with d1 | ⟨d1, d2⟩
              · by_cases hri : mid < t ∧ t < b
                · have f1 : (mid : Int) < (t : Int) := by omega
                  have f2 : (t : Int) < (b : Int) := by omega
                  first
                  | (exfalso; omega)
                  | (go_wp2_with (first | (go_at_fn 128; refine (HIH.out mid t b d _ (by omega) hri.1 hri.2 (by have := HE1.out.2.2; have := (permIn_refl d a mid).1; omega) ((permIn_refl d a mid).1.trans HE1.out.2.2) S2.out (sorted_other HE1.out.2.1.s3 (permIn_refl d a mid) (.inr (Nat.le_refl _))) (sorted_other HE1.out.2.1.s4 (permIn_refl d a mid) (.inr (by omega)))).mono ?_; rintro e w3 ⟨rfl, e3, hp3, hq3, S4p⟩; have S4 : Aside _ := S4p; clear S4p; have HP3 : Aside (PermIn mid b d e3 ∧ SortedIn (ltOf cf) mid b e3) := ⟨hp3, hq3⟩; clear hp3 hq3))
                     go_end0
                     have hm := merged HE1.out.2.1 (by have := HE1.out.2.2; omega) (by omega) (by omega) (permIn_refl d a mid) (left_of HE1.out.2.1 (by omega)) HP3.out.1 HP3.out.2
                     exact ⟨rfl, _, permIn_trans _ _ _ a b HE1.out.1 hm.1, hm.2, S4.out⟩)
                · have ff : ¬ (mid : Int) < (t : Int) ∨ ((mid : Int) < (t : Int) ∧ ¬ (t : Int) < (b : Int)) := by omega
                  rcases ff with f1 | ⟨f1, f2⟩
                  · first
                    | (exfalso; omega)
                    | (go_wp2
                       go_end0
                       have hm := merged HE1.out.2.1 (by have := HE1.out.2.2; omega) (by omega) (by omega) (permIn_refl d a mid) (left_of HE1.out.2.1 (by omega)) (permIn_refl d mid b) (sorted_other (right_of HE1.out.2.1 (by omega)) (permIn_refl d a mid) (.inr (Nat.le_refl _)))
                       exact ⟨rfl, _, permIn_trans _ _ _ a b HE1.out.1 hm.1, hm.2, S2.out⟩)
                  · first
                    | (exfalso; omega)
                    | (go_wp2
                       go_end0
                       have hm := merged HE1.out.2.1 (by have := HE1.out.2.2; omega) (by omega) (by omega) (permIn_refl d a mid) (left_of HE1.out.2.1 (by omega)) (permIn_refl d mid b) (sorted_other (right_of HE1.out.2.1 (by omega)) (permIn_refl d a mid) (.inr (Nat.le_refl _)))
                       exact ⟨rfl, _, permIn_trans _ _ _ a b HE1.out.1 hm.1, hm.2, S2.out⟩)
              · by_cases hri : mid < t ∧ t < b
                · have f1 : (mid : Int) < (t : Int) := by omega
                  have f2 : (t : Int) < (b : Int) := by omega
                  first
                  | (exfalso; omega)
                  | (go_wp2_with (first | (go_at_fn 128; refine (HIH.out mid t b d _ (by omega) hri.1 hri.2 (by have := HE1.out.2.2; have := (permIn_refl d a mid).1; omega) ((permIn_refl d a mid).1.trans HE1.out.2.2) S2.out (sorted_other HE1.out.2.1.s3 (permIn_refl d a mid) (.inr (Nat.le_refl _))) (sorted_other HE1.out.2.1.s4 (permIn_refl d a mid) (.inr (by omega)))).mono ?_; rintro e w3 ⟨rfl, e3, hp3, hq3, S4p⟩; have S4 : Aside _ := S4p; clear S4p; have HP3 : Aside (PermIn mid b d e3 ∧ SortedIn (ltOf cf) mid b e3) := ⟨hp3, hq3⟩; clear hp3 hq3))
                     go_end0
                     have hm := merged HE1.out.2.1 (by have := HE1.out.2.2; omega) (by omega) (by omega) (permIn_refl d a mid) (left_of HE1.out.2.1 (by omega)) HP3.out.1 HP3.out.2
                     exact ⟨rfl, _, permIn_trans _ _ _ a b HE1.out.1 hm.1, hm.2, S4.out⟩)
                · have ff : ¬ (mid : Int) < (t : Int) ∨ ((mid : Int) < (t : Int) ∧ ¬ (t : Int) < (b : Int)) := by omega
                  rcases ff with f1 | ⟨f1, f2⟩
                  · first
                    | (exfalso; omega)
                    | (go_wp2
                       go_end0
                       have hm := merged HE1.out.2.1 (by have := HE1.out.2.2; omega) (by omega) (by omega) (permIn_refl d a mid) (left_of HE1.out.2.1 (by omega)) (permIn_refl d mid b) (sorted_other (right_of HE1.out.2.1 (by omega)) (permIn_refl d a mid) (.inr (Nat.le_refl _)))
                       exact ⟨rfl, _, permIn_trans _ _ _ a b HE1.out.1 hm.1, hm.2, S2.out⟩)
                  · first
                    | (exfalso; omega)
                    | (go_wp2
                       go_end0
                       have hm := merged HE1.out.2.1 (by have := HE1.out.2.2; omega) (by omega) (by omega) (permIn_refl d a mid) (left_of HE1.out.2.1 (by omega)) (permIn_refl d mid b) (sorted_other (right_of HE1.out.2.1 (by omega)) (permIn_refl d a mid) (.inr (Nat.le_refl _)))
                       exact ⟨rfl, _, permIn_trans _ _ _ a b HE1.out.1 hm.1, hm.2, S2.out⟩)
          · by_cases hle : a < s ∧ s < mid
            · have d1 : (a : Int) < (s : Int) := by omega
              have d2 : (s : Int) < (mid : Int) := by omega
              by_cases hri : mid < t ∧ t < b
              · have f1 : (mid : Int) < (t : Int) := by omega
                have f2 : (t : Int) < (b : Int) := by omega
                first
                | (exfalso; omega)
                | (go_wp2_with (first | (go_at_fn 128; refine (HIH.out a s mid d _ (by omega) hle.1 hle.2 (by have := HE1.out.2.2; omega) HE1.out.2.2 S2 HE1.out.2.1.s1 HE1.out.2.1.s2).mono ?_; rintro e w2 ⟨rfl, e2, hp2, hq2, S3p⟩; have S3 : Aside _ := S3p; clear S3p; have HP2 : Aside (PermIn a mid d e2 ∧ SortedIn (ltOf cf) a mid e2) := ⟨hp2, hq2⟩; clear hp2 hq2) | (go_at_fn 128; refine (HIH.out mid t b e2 _ (by omega) hri.1 hri.2 (by have := HE1.out.2.2; have := HP2.out.1.1; omega) (HP2.out.1.1.trans HE1.out.2.2) S3.out (sorted_other HE1.out.2.1.s3 HP2.out.1 (.inr (Nat.le_refl _))) (sorted_other HE1.out.2.1.s4 HP2.out.1 (.inr (by omega)))).mono ?_; rintro e w3 ⟨rfl, e3, hp3, hq3, S4p⟩; have S4 : Aside _ := S4p; clear S4p; have HP3 : Aside (PermIn mid b e2 e3 ∧ SortedIn (ltOf cf) mid b e3) := ⟨hp3, hq3⟩; clear hp3 hq3))
                   go_end0
                   have hm := merged HE1.out.2.1 (by have := HE1.out.2.2; omega) (by omega) (by omega) HP2.out.1 HP2.out.2 HP3.out.1 HP3.out.2
                   exact ⟨rfl, _, permIn_trans _ _ _ a b HE1.out.1 hm.1, hm.2, S4.out⟩)
              · have ff : ¬ (mid : Int) < (t : Int) ∨ ((mid : Int) < (t : Int) ∧ ¬ (t : Int) < (b : Int)) := by omega
                rcases ff with f1 | ⟨f1, f2⟩
                · first
                  | (exfalso; omega)
                  | (go_wp2_with (first | (go_at_fn 128; refine (HIH.out a s mid d _ (by omega) hle.1 hle.2 (by have := HE1.out.2.2; omega) HE1.out.2.2 S2 HE1.out.2.1.s1 HE1.out.2.1.s2).mono ?_; rintro e w2 ⟨rfl, e2, hp2, hq2, S3p⟩; have S3 : Aside _ := S3p; clear S3p; have HP2 : Aside (PermIn a mid d e2 ∧ SortedIn (ltOf cf) a mid e2) := ⟨hp2, hq2⟩; clear hp2 hq2))
                     go_end0
                     have hm := merged HE1.out.2.1 (by have := HE1.out.2.2; omega) (by omega) (by omega) HP2.out.1 HP2.out.2 (permIn_refl e2 mid b) (sorted_other (right_of HE1.out.2.1 (by omega)) HP2.out.1 (.inr (Nat.le_refl _)))
                     exact ⟨rfl, _, permIn_trans _ _ _ a b HE1.out.1 hm.1, hm.2, S3.out⟩)
                · first
                  | (exfalso; omega)
                  | (go_wp2_with (first | (go_at_fn 128; refine (HIH.out a s mid d _ (by omega) hle.1 hle.2 (by have := HE1.out.2.2; omega) HE1.out.2.2 S2 HE1.out.2.1.s1 HE1.out.2.1.s2).mono ?_; rintro e w2 ⟨rfl, e2, hp2, hq2, S3p⟩; have S3 : Aside _ := S3p; clear S3p; have HP2 : Aside (PermIn a mid d e2 ∧ SortedIn (ltOf cf) a mid e2) := ⟨hp2, hq2⟩; clear hp2 hq2))
                     go_end0
                     have hm := merged HE1.out.2.1 (by have := HE1.out.2.2; omega) (by omega) (by omega) HP2.out.1 HP2.out.2 (permIn_refl e2 mid b) (sorted_other (right_of HE1.out.2.1 (by omega)) HP2.out.1 (.inr (Nat.le_refl _)))
                     exact ⟨rfl, _, permIn_trans _ _ _ a b HE1.out.1 hm.1, hm.2, S3.out⟩)
            · have dd : ¬ (a : Int) < (s : Int) ∨ ((a : Int) < (s : Int) ∧ ¬ (s : Int) < (mid : Int)) := by omega
              rcases dd with d1 | ⟨d1, d2⟩
              · by_cases hri : mid < t ∧ t < b
                · have f1 : (mid : Int) < (t : Int) := by omega
                  have f2 : (t : Int) < (b : Int) := by omega
                  first
                  | (exfalso; omega)
                  | (go_wp2_with (first | (go_at_fn 128; refine (HIH.out mid t b d _ (by omega) hri.1 hri.2 (by have := HE1.out.2.2; have := (permIn_refl d a mid).1; omega) ((permIn_refl d a mid).1.trans HE1.out.2.2) S2.out (sorted_other HE1.out.2.1.s3 (permIn_refl d a mid) (.inr (Nat.le_refl _))) (sorted_other HE1.out.2.1.s4 (permIn_refl d a mid) (.inr (by omega)))).mono ?_; rintro e w3 ⟨rfl, e3, hp3, hq3, S4p⟩; have S4 : Aside _ := S4p; clear S4p; have HP3 : Aside (PermIn mid b d e3 ∧ SortedIn (ltOf cf) mid b e3) := ⟨hp3, hq3⟩; clear hp3 hq3))
                     go_end0
                     have hm := merged HE1.out.2.1 (by have := HE1.out.2.2; omega) (by omega) (by omega) (permIn_refl d a mid) (left_of HE1.out.2.1 (by omega)) HP3.out.1 HP3.out.2
                     exact ⟨rfl, _, permIn_trans _ _ _ a b HE1.out.1 hm.1, hm.2, S4.out⟩)
                · have ff : ¬ (mid : Int) < (t : Int) ∨ ((mid : Int) < (t : Int) ∧ ¬ (t : Int) < (b : Int)) := by omega
                  rcases ff with f1 | ⟨f1, f2⟩
                  · first
                    | (exfalso; omega)
                    | (go_wp2
                       go_end0
                       have hm := merged HE1.out.2.1 (by have := HE1.out.2.2; omega) (by omega) (by omega) (permIn_refl d a mid) (left_of HE1.out.2.1 (by omega)) (permIn_refl d mid b) (sorted_other (right_of HE1.out.2.1 (by omega)) (permIn_refl d a mid) (.inr (Nat.le_refl _)))
                       exact ⟨rfl, _, permIn_trans _ _ _ a b HE1.out.1 hm.1, hm.2, S2.out⟩)
                  · first
                    | (exfalso; omega)
                    | (go_wp2
                       go_end0
                       have hm := merged HE1.out.2.1 (by have := HE1.out.2.2; omega) (by omega) (by omega) (permIn_refl d a mid) (left_of HE1.out.2.1 (by omega)) (permIn_refl d mid b) (sorted_other (right_of HE1.out.2.1 (by omega)) (permIn_refl d a mid) (.inr (Nat.le_refl _)))
                       exact ⟨rfl, _, permIn_trans _ _ _ a b HE1.out.1 hm.1, hm.2, S2.out⟩)
              · by_cases hri : mid < t ∧ t < b
                · have f1 : (mid : Int) < (t : Int) := by omega
                  have f2 : (t : Int) < (b : Int) := by omega
                  first
                  | (exfalso; omega)
                  | (go_wp2_with (first | (go_at_fn 128; refine (HIH.out mid t b d _ (by omega) hri.1 hri.2 (by have := HE1.out.2.2; have := (permIn_refl d a mid).1; omega) ((permIn_refl d a mid).1.trans HE1.out.2.2) S2.out (sorted_other HE1.out.2.1.s3 (permIn_refl d a mid) (.inr (Nat.le_refl _))) (sorted_other HE1.out.2.1.s4 (permIn_refl d a mid) (.inr (by omega)))).mono ?_; rintro e w3 ⟨rfl, e3, hp3, hq3, S4p⟩; have S4 : Aside _ := S4p; clear S4p; have HP3 : Aside (PermIn mid b d e3 ∧ SortedIn (ltOf cf) mid b e3) := ⟨hp3, hq3⟩; clear hp3 hq3))
                     go_end0
                     have hm := merged HE1.out.2.1 (by have := HE1.out.2.2; omega) (by omega) (by omega) (permIn_refl d a mid) (left_of HE1.out.2.1 (by omega)) HP3.out.1 HP3.out.2
                     exact ⟨rfl, _, permIn_trans _ _ _ a b HE1.out.1 hm.1, hm.2, S4.out⟩)
                · have ff : ¬ (mid : Int) < (t : Int) ∨ ((mid : Int) < (t : Int) ∧ ¬ (t : Int) < (b : Int)) := by omega
                  rcases ff with f1 | ⟨f1, f2⟩
                  · first
                    | (exfalso; omega)
                    | (go_wp2
                       go_end0
                       have hm := merged HE1.out.2.1 (by have := HE1.out.2.2; omega) (by omega) (by omega) (permIn_refl d a mid) (left_of HE1.out.2.1 (by omega)) (permIn_refl d mid b) (sorted_other (right_of HE1.out.2.1 (by omega)) (permIn_refl d a mid) (.inr (Nat.le_refl _)))
                       exact ⟨rfl, _, permIn_trans _ _ _ a b HE1.out.1 hm.1, hm.2, S2.out⟩)
                  · first
                    | (exfalso; omega)
                    | (go_wp2
                       go_end0
                       have hm := merged HE1.out.2.1 (by have := HE1.out.2.2; omega) (by omega) (by omega) (permIn_refl d a mid) (left_of HE1.out.2.1 (by omega)) (permIn_refl d mid b) (sorted_other (right_of HE1.out.2.1 (by omega)) (permIn_refl d a mid) (.inr (Nat.le_refl _)))
                       exact ⟨rfl, _, permIn_trans _ _ _ a b HE1.out.1 hm.1, hm.2, S2.out⟩)
  · have hmz : ¬ (m : Int) > (mid : Int) := by omega
    go_enter F128, Try.ntmps128
    go_wp2
    go_loopg [20, 21] (b - a) (fun kx s20 s21 wr => ∃ (s r : Nat), s20 = .int .i64 s ∧ s21 = .int .i64 r ∧ a ≤ s ∧ s ≤ r ∧ r ≤ m ∧ r - s ≤ kx ∧ (s = a ∨ ltOf cf d[p - (s - 1)]! d[s - 1]! = false) ∧ (r = m ∨ ltOf cf d[p - r]! d[r]! = true) ∧ Aside (SWK enc k w0 blk off d wr))
    case atStart => exact ⟨a, m, by first | rfl | go_num, by first | rfl | go_num, Nat.le_refl _, by omega, Nat.le_refl _, by omega, .inl rfl, .inl rfl, S0⟩
    case round =>
      clear S0
      obtain ⟨s, r, rfl, rfl, hai, hij, hjb, hkx, hI, hJ, S1⟩ := hrel
      by_cases hlt : s < r
      · have hltz : (s : Int) < (r : Int) := by omega
        obtain ⟨c, hc⟩ : ∃ c, (s + r) / 2 = c := ⟨_, rfl⟩
        have r7 : IntKind.i64.wrap ((s : Int) + (r : Int)) = (s : Int) + (r : Int) := by rw [IntKind.wrap_i64]; omega
        have r8 : ((s : Int) + (r : Int)) / 2 = (c : Int) := by omega
        obtain ⟨z, hz⟩ : ∃ z, p - c = z := ⟨_, rfl⟩
        have r9 : IntKind.i64.wrap ((p : Int) - (c : Int)) = (z : Int) := by rw [IntKind.wrap_i64]; omega
        go_wp2_with fail
        obtain ⟨xh, hxh⟩ : ∃ x, d[c]! = x := ⟨_, rfl⟩
        obtain ⟨xa, hxa⟩ : ∃ x, d[z]! = x := ⟨_, rfl⟩
        have p0 : (0 : Int) ≤ (c : Int) := by omega
        have p1 : (0 : Int) ≤ (z : Int) := by omega
        have b0 : (c : Int) < (d.size : Int) := by omega
        have b1 : (z : Int) < (d.size : Int) := by omega
        have lj := fun n os => S1.out.ld R hs.symm P c (by omega) n os
        have lp := fun n os => S1.out.ld R hs.symm P z (by omega) n os
        have hcg := fun n os => S1.out.cmp HC.out rfl xa xh n os
        rw [hxh] at lj
        rw [hxa] at lp
        have HX : Hid (d[c]! = xh ∧ d[z]! = xa) := ⟨hxh, hxa⟩
        clear hxh hxa
        have HIJ : Hid ((s = a ∨ ltOf cf d[p - (s - 1)]! d[s - 1]! = false) ∧ (r = m ∨ ltOf cf d[p - r]! d[r]! = true)) := ⟨hI, hJ⟩
        clear hI hJ
        by_cases hlv : cf xa xh < 0
        · go_quiet_grown (first | (go_at_fn g; refine Calls.grown_of (hcg _ _)))
          go_wp2_with fail
          go_roundg (c - s)
          case measure => omega
          case rel => exact ⟨s, c, rfl, by go_num, hai, by omega, by omega, Nat.le_refl _, HIJ.out.1, .inr (by rw [hz, HX.out.1, HX.out.2]; exact decide_eq_true hlv), S1.out.grown _ _⟩
        · go_quiet_grown (first | (go_at_fn g; refine Calls.grown_of (hcg _ _)))
          go_wp2_with fail
          go_roundg (r - (c + 1))
          case measure => omega
          case rel => exact ⟨c + 1, r, by go_num, rfl, by omega, by omega, hjb, Nat.le_refl _, .inr (by rw [Nat.add_sub_cancel, hz, HX.out.1, HX.out.2]; exact decide_eq_false (by omega)), HIJ.out.2, S1.out.grown _ _⟩
      · obtain rfl : s = r := by omega
        obtain ⟨t, ht⟩ : ∃ t, mid + m - s = t := ⟨_, rfl⟩
        have q1 : IntKind.i64.wrap ((mid : Int) + (m : Int) - (s : Int)) = (t : Int) := by rw [IntKind.wrap_i64]; omega
        have hX : s = a ∨ t = b ∨ ltOf cf d[t]! d[s - 1]! = false := by
          rcases hI with h | h
          · omega
          · by_cases h0 : s = a
            · exact .inl h0
            · rw [show p - (s - 1) = t by omega] at h
              exact .inr (.inr h)
        have hY : s = m ∨ t = m ∨ ltOf cf d[t - 1]! d[s]! = true := by
          rcases hJ with h | h
          · omega
          · rw [show p - s = t - 1 by omega] at h
            exact .inr (.inr h)
        have HSPL : Aside (∀ e : Array α, (∀ k, e[k]! = rotS d s m t k) → Split (ltOf cf) a s mid t b e) := fun e he => HSP.out s t e (by omega) (by omega) (by omega) (by omega) (by omega) hX hY he
        clear hX hY hI hJ hkx hij hlt
        have nlt : ¬ (s : Int) < (s : Int) := by omega
        by_cases hrot : s < m ∧ m < t
        · have c1 : (s : Int) < (m : Int) := by omega
          have c2 : (m : Int) < (t : Int) := by omega
          have HR := HROT.out s t wr S1.out hrot.1 hrot.2 (by omega)
          have HA : Aside (∀ e, Rotated d s m t e → PermIn a b d e ∧ Split (ltOf cf) a s mid t b e ∧ e.size = d.size) := fun e h => ⟨permIn_mono d e s t a b (by omega) (by omega) (by omega) h.perm, HSPL.out e h.get, h.perm.1⟩
          by_cases hle : a < s ∧ s < mid
          · have d1 : (a : Int) < (s : Int) := by omega
            have d2 : (s : Int) < (mid : Int) := by omega
            by_cases hri : mid < t ∧ t < b
            · have f1 : (mid : Int) < (t : Int) := by omega
              have f2 : (t : Int) < (b : Int) := by omega
              first
              | (exfalso; omega)
              | (go_wp2_with (first | (go_at_fn 140; refine HR.mono ?_; rintro e w1 ⟨rfl, e1, hro, S2p⟩; have S2 : Aside _ := S2p; clear S2p; have HE1 : Aside _ := HA.out e1 hro; clear hro S1) | (go_at_fn 128; refine (HIH.out a s mid e1 _ (by omega) hle.1 hle.2 (by have := HE1.out.2.2; omega) HE1.out.2.2 S2 HE1.out.2.1.s1 HE1.out.2.1.s2).mono ?_; rintro e w2 ⟨rfl, e2, hp2, hq2, S3p⟩; have S3 : Aside _ := S3p; clear S3p; have HP2 : Aside (PermIn a mid e1 e2 ∧ SortedIn (ltOf cf) a mid e2) := ⟨hp2, hq2⟩; clear hp2 hq2) | (go_at_fn 128; refine (HIH.out mid t b e2 _ (by omega) hri.1 hri.2 (by have := HE1.out.2.2; have := HP2.out.1.1; omega) (HP2.out.1.1.trans HE1.out.2.2) S3.out (sorted_other HE1.out.2.1.s3 HP2.out.1 (.inr (Nat.le_refl _))) (sorted_other HE1.out.2.1.s4 HP2.out.1 (.inr (by omega)))).mono ?_; rintro e w3 ⟨rfl, e3, hp3, hq3, S4p⟩; have S4 : Aside _ := S4p; clear S4p; have HP3 : Aside (PermIn mid b e2 e3 ∧ SortedIn (ltOf cf) mid b e3) := ⟨hp3, hq3⟩; clear hp3 hq3))
                 go_end0
                 have hm := merged HE1.out.2.1 (by have := HE1.out.2.2; omega) (by omega) (by omega) HP2.out.1 HP2.out.2 HP3.out.1 HP3.out.2
                 exact ⟨rfl, _, permIn_trans _ _ _ a b HE1.out.1 hm.1, hm.2, S4.out⟩)
            · have ff : ¬ (mid : Int) < (t : Int) ∨ ((mid : Int) < (t : Int) ∧ ¬ (t : Int) < (b : Int)) := by omega
              rcases ff with f1 | ⟨f1, f2⟩
              · first
                | (exfalso; omega)
                | (go_wp2_with (first | (go_at_fn 140; refine HR.mono ?_; rintro e w1 ⟨rfl, e1, hro, S2p⟩; have S2 : Aside _ := S2p; clear S2p; have HE1 : Aside _ := HA.out e1 hro; clear hro S1) | (go_at_fn 128; refine (HIH.out a s mid e1 _ (by omega) hle.1 hle.2 (by have := HE1.out.2.2; omega) HE1.out.2.2 S2 HE1.out.2.1.s1 HE1.out.2.1.s2).mono ?_; rintro e w2 ⟨rfl, e2, hp2, hq2, S3p⟩; have S3 : Aside _ := S3p; clear S3p; have HP2 : Aside (PermIn a mid e1 e2 ∧ SortedIn (ltOf cf) a mid e2) := ⟨hp2, hq2⟩; clear hp2 hq2))
                   go_end0
                   have hm := merged HE1.out.2.1 (by have := HE1.out.2.2; omega) (by omega) (by omega) HP2.out.1 HP2.out.2 (permIn_refl e2 mid b) (sorted_other (right_of HE1.out.2.1 (by omega)) HP2.out.1 (.inr (Nat.le_refl _)))
                   exact ⟨rfl, _, permIn_trans _ _ _ a b HE1.out.1 hm.1, hm.2, S3.out⟩)
              · first
                | (exfalso; omega)
                | (go_wp2_with (first | (go_at_fn 140; refine HR.mono ?_; rintro e w1 ⟨rfl, e1, hro, S2p⟩; have S2 : Aside _ := S2p; clear S2p; have HE1 : Aside _ := HA.out e1 hro; clear hro S1) | (go_at_fn 128; refine (HIH.out a s mid e1 _ (by omega) hle.1 hle.2 (by have := HE1.out.2.2; omega) HE1.out.2.2 S2 HE1.out.2.1.s1 HE1.out.2.1.s2).mono ?_; rintro e w2 ⟨rfl, e2, hp2, hq2, S3p⟩; have S3 : Aside _ := S3p; clear S3p; have HP2 : Aside (PermIn a mid e1 e2 ∧ SortedIn (ltOf cf) a mid e2) := ⟨hp2, hq2⟩; clear hp2 hq2))
                   go_end0
                   have hm := merged HE1.out.2.1 (by have := HE1.out.2.2; omega) (by omega) (by omega) HP2.out.1 HP2.out.2 (permIn_refl e2 mid b) (sorted_other (right_of HE1.out.2.1 (by omega)) HP2.out.1 (.inr (Nat.le_refl _)))
                   exact ⟨rfl, _, permIn_trans _ _ _ a b HE1.out.1 hm.1, hm.2, S3.out⟩)
          · have dd : ¬ (a : Int) < (s : Int) ∨ ((a : Int) < (s : Int) ∧ ¬ (s : Int) < (mid : Int)) := by omega
            rcases dd with d1 | ⟨d1, d2⟩
            · by_cases hri : mid < t ∧ t < b
              · have f1 : (mid : Int) < (t : Int) := by omega
                have f2 : (t : Int) < (b : Int) := by omega
                first
                | (exfalso; omega)
                | (go_wp2_with (first | (go_at_fn 140; refine HR.mono ?_; rintro e w1 ⟨rfl, e1, hro, S2p⟩; have S2 : Aside _ := S2p; clear S2p; have HE1 : Aside _ := HA.out e1 hro; clear hro S1) | (go_at_fn 128; refine (HIH.out mid t b e1 _ (by omega) hri.1 hri.2 (by have := HE1.out.2.2; have := (permIn_refl e1 a mid).1; omega) ((permIn_refl e1 a mid).1.trans HE1.out.2.2) S2.out (sorted_other HE1.out.2.1.s3 (permIn_refl e1 a mid) (.inr (Nat.le_refl _))) (sorted_other HE1.out.2.1.s4 (permIn_refl e1 a mid) (.inr (by omega)))).mono ?_; rintro e w3 ⟨rfl, e3, hp3, hq3, S4p⟩; have S4 : Aside _ := S4p; clear S4p; have HP3 : Aside (PermIn mid b e1 e3 ∧ SortedIn (ltOf cf) mid b e3) := ⟨hp3, hq3⟩; clear hp3 hq3))
                   go_end0
                   have hm := merged HE1.out.2.1 (by have := HE1.out.2.2; omega) (by omega) (by omega) (permIn_refl e1 a mid) (left_of HE1.out.2.1 (by omega)) HP3.out.1 HP3.out.2
                   exact ⟨rfl, _, permIn_trans _ _ _ a b HE1.out.1 hm.1, hm.2, S4.out⟩)
              · have ff : ¬ (mid : Int) < (t : Int) ∨ ((mid : Int) < (t : Int) ∧ ¬ (t : Int) < (b : Int)) := by omega
                rcases ff with f1 | ⟨f1, f2⟩
                · first
                  | (exfalso; omega)
                  | (go_wp2_with (first | (go_at_fn 140; refine HR.mono ?_; rintro e w1 ⟨rfl, e1, hro, S2p⟩; have S2 : Aside _ := S2p; clear S2p; have HE1 : Aside _ := HA.out e1 hro; clear hro S1))
                     go_end0
                     have hm := merged HE1.out.2.1 (by have := HE1.out.2.2; omega) (by omega) (by omega) (permIn_refl e1 a mid) (left_of HE1.out.2.1 (by omega)) (permIn_refl e1 mid b) (sorted_other (right_of HE1.out.2.1 (by omega)) (permIn_refl e1 a mid) (.inr (Nat.le_refl _)))
                     exact ⟨rfl, _, permIn_trans _ _ _ a b HE1.out.1 hm.1, hm.2, S2.out⟩)
                · first
                  | (exfalso; omega)
                  | (go_wp2_with (first | (go_at_fn 140; refine HR.mono ?_; rintro e w1 ⟨rfl, e1, hro, S2p⟩; have S2 : Aside _ := S2p; clear S2p; have HE1 : Aside _ := HA.out e1 hro; clear hro S1))
                     go_end0
                     have hm := merged HE1.out.2.1 (by have := HE1.out.2.2; omega) (by omega) (by omega) (permIn_refl e1 a mid) (left_of HE1.out.2.1 (by omega)) (permIn_refl e1 mid b) (sorted_other (right_of HE1.out.2.1 (by omega)) (permIn_refl e1 a mid) (.inr (Nat.le_refl _)))
                     exact ⟨rfl, _, permIn_trans _ _ _ a b HE1.out.1 hm.1, hm.2, S2.out⟩)
            · by_cases hri : mid < t ∧ t < b
              · have f1 : (mid : Int) < (t : Int) := by omega
                have f2 : (t : Int) < (b : Int) := by omega
                first
                | (exfalso; omega)
                | (go_wp2_with (first | (go_at_fn 140; refine HR.mono ?_; rintro e w1 ⟨rfl, e1, hro, S2p⟩; have S2 : Aside _ := S2p; clear S2p; have HE1 : Aside _ := HA.out e1 hro; clear hro S1) | (go_at_fn 128; refine (HIH.out mid t b e1 _ (by omega) hri.1 hri.2 (by have := HE1.out.2.2; have := (permIn_refl e1 a mid).1; omega) ((permIn_refl e1 a mid).1.trans HE1.out.2.2) S2.out (sorted_other HE1.out.2.1.s3 (permIn_refl e1 a mid) (.inr (Nat.le_refl _))) (sorted_other HE1.out.2.1.s4 (permIn_refl e1 a mid) (.inr (by omega)))).mono ?_; rintro e w3 ⟨rfl, e3, hp3, hq3, S4p⟩; have S4 : Aside _ := S4p; clear S4p; have HP3 : Aside (PermIn mid b e1 e3 ∧ SortedIn (ltOf cf) mid b e3) := ⟨hp3, hq3⟩; clear hp3 hq3))
                   go_end0
                   have hm := merged HE1.out.2.1 (by have := HE1.out.2.2; omega) (by omega) (by omega) (permIn_refl e1 a mid) (left_of HE1.out.2.1 (by omega)) HP3.out.1 HP3.out.2
                   exact ⟨rfl, _, permIn_trans _ _ _ a b HE1.out.1 hm.1, hm.2, S4.out⟩)
              · have ff : ¬ (mid : Int) < (t : Int) ∨ ((mid : Int) < (t : Int) ∧ ¬ (t : Int) < (b : Int)) := by omega
                rcases ff with f1 | ⟨f1, f2⟩
                · first
                  | (exfalso; omega)
                  | (go_wp2_with (first | (go_at_fn 140; refine HR.mono ?_; rintro e w1 ⟨rfl, e1, hro, S2p⟩; have S2 : Aside _ := S2p; clear S2p; have HE1 : Aside _ := HA.out e1 hro; clear hro S1))
                     go_end0
                     have hm := merged HE1.out.2.1 (by have := HE1.out.2.2; omega) (by omega) (by omega) (permIn_refl e1 a mid) (left_of HE1.out.2.1 (by omega)) (permIn_refl e1 mid b) (sorted_other (right_of HE1.out.2.1 (by omega)) (permIn_refl e1 a mid) (.inr (Nat.le_refl _)))
                     exact ⟨rfl, _, permIn_trans _ _ _ a b HE1.out.1 hm.1, hm.2, S2.out⟩)
                · first
                  | (exfalso; omega)
                  | (go_wp2_with (first | (go_at_fn 140; refine HR.mono ?_; rintro e w1 ⟨rfl, e1, hro, S2p⟩; have S2 : Aside _ := S2p; clear S2p; have HE1 : Aside _ := HA.out e1 hro; clear hro S1))
                     go_end0
                     have hm := merged HE1.out.2.1 (by have := HE1.out.2.2; omega) (by omega) (by omega) (permIn_refl e1 a mid) (left_of HE1.out.2.1 (by omega)) (permIn_refl e1 mid b) (sorted_other (right_of HE1.out.2.1 (by omega)) (permIn_refl e1 a mid) (.inr (Nat.le_refl _)))
                     exact ⟨rfl, _, permIn_trans _ _ _ a b HE1.out.1 hm.1, hm.2, S2.out⟩)
        · have HE1 : Aside (PermIn a b d d ∧ Split (ltOf cf) a s mid t b d ∧ d.size = d.size) := ⟨permIn_refl d a b, HSPL.out d (by
              rcases Nat.lt_or_ge s m with h | h
              · have : t = m := by omega
                subst this
                exact fun k => rot_none_right d s t k (by omega)
              · have : s = m := by omega
                subst this
                exact fun k => rot_none_left d s t k (by omega)), rfl⟩
          have S2 := S1
          have c12 : (decide ((s : Int) < (m : Int)) && decide ((m : Int) < (t : Int))) = false := by rw [Bool.and_eq_false_iff]; simp only [decide_eq_false_iff_not]; omega
          by_cases c1 : (s : Int) < (m : Int)
          · have c2 : ¬ (m : Int) < (t : Int) := by omega
            by_cases hle : a < s ∧ s < mid
            · have d1 : (a : Int) < (s : Int) := by omega
              have d2 : (s : Int) < (mid : Int) := by omega
              by_cases hri : mid < t ∧ t < b
              · have f1 : (mid : Int) < (t : Int) := by omega
                have f2 : (t : Int) < (b : Int) := by omega
                first
                | (exfalso; omega)
                | (go_wp2_with (first | (go_at_fn 128; refine (HIH.out a s mid d _ (by omega) hle.1 hle.2 (by have := HE1.out.2.2; omega) HE1.out.2.2 S2 HE1.out.2.1.s1 HE1.out.2.1.s2).mono ?_; rintro e w2 ⟨rfl, e2, hp2, hq2, S3p⟩; have S3 : Aside _ := S3p; clear S3p; have HP2 : Aside (PermIn a mid d e2 ∧ SortedIn (ltOf cf) a mid e2) := ⟨hp2, hq2⟩; clear hp2 hq2) | (go_at_fn 128; refine (HIH.out mid t b e2 _ (by omega) hri.1 hri.2 (by have := HE1.out.2.2; have := HP2.out.1.1; omega) (HP2.out.1.1.trans HE1.out.2.2) S3.out (sorted_other HE1.out.2.1.s3 HP2.out.1 (.inr (Nat.le_refl _))) (sorted_other HE1.out.2.1.s4 HP2.out.1 (.inr (by omega)))).mono ?_; rintro e w3 ⟨rfl, e3, hp3, hq3, S4p⟩; have S4 : Aside _ := S4p; clear S4p; have HP3 : Aside (PermIn mid b e2 e3 ∧ SortedIn (ltOf cf) mid b e3) := ⟨hp3, hq3⟩; clear hp3 hq3))
                   go_end0
                   have hm := merged HE1.out.2.1 (by have := HE1.out.2.2; omega) (by omega) (by omega) HP2.out.1 HP2.out.2 HP3.out.1 HP3.out.2
                   exact ⟨rfl, _, permIn_trans _ _ _ a b HE1.out.1 hm.1, hm.2, S4.out⟩)
              · have ff : ¬ (mid : Int) < (t : Int) ∨ ((mid : Int) < (t : Int) ∧ ¬ (t : Int) < (b : Int)) := by omega
                rcases ff with f1 | ⟨f1, f2⟩
                · first
                  | (exfalso; omega)
                  | (go_wp2_with (first | (go_at_fn 128; refine (HIH.out a s mid d _ (by omega) hle.1 hle.2 (by have := HE1.out.2.2; omega) HE1.out.2.2 S2 HE1.out.2.1.s1 HE1.out.2.1.s2).mono ?_; rintro e w2 ⟨rfl, e2, hp2, hq2, S3p⟩; have S3 : Aside _ := S3p; clear S3p; have HP2 : Aside (PermIn a mid d e2 ∧ SortedIn (ltOf cf) a mid e2) := ⟨hp2, hq2⟩; clear hp2 hq2))
                     go_end0
                     have hm := merged HE1.out.2.1 (by have := HE1.out.2.2; omega) (by omega) (by omega) HP2.out.1 HP2.out.2 (permIn_refl e2 mid b) (sorted_other (right_of HE1.out.2.1 (by omega)) HP2.out.1 (.inr (Nat.le_refl _)))
                     exact ⟨rfl, _, permIn_trans _ _ _ a b HE1.out.1 hm.1, hm.2, S3.out⟩)
                · first
                  | (exfalso; omega)
                  | (go_wp2_with (first | (go_at_fn 128; refine (HIH.out a s mid d _ (by omega) hle.1 hle.2 (by have := HE1.out.2.2; omega) HE1.out.2.2 S2 HE1.out.2.1.s1 HE1.out.2.1.s2).mono ?_; rintro e w2 ⟨rfl, e2, hp2, hq2, S3p⟩; have S3 : Aside _ := S3p; clear S3p; have HP2 : Aside (PermIn a mid d e2 ∧ SortedIn (ltOf cf) a mid e2) := ⟨hp2, hq2⟩; clear hp2 hq2))
                     go_end0
                     have hm := merged HE1.out.2.1 (by have := HE1.out.2.2; omega) (by omega) (by omega) HP2.out.1 HP2.out.2 (permIn_refl e2 mid b) (sorted_other (right_of HE1.out.2.1 (by omega)) HP2.out.1 (.inr (Nat.le_refl _)))
                     exact ⟨rfl, _, permIn_trans _ _ _ a b HE1.out.1 hm.1, hm.2, S3.out⟩)
            · have dd : ¬ (a : Int) < (s : Int) ∨ ((a : Int) < (s : Int) ∧ ¬ (s : Int) < (mid : Int)) := by omega
              rcases dd with d1 | ⟨d1, d2⟩
              · by_cases hri : mid < t ∧ t < b
                · have f1 : (mid : Int) < (t : Int) := by omega
                  have f2 : (t : Int) < (b : Int) := by omega
                  first
                  | (exfalso; omega)
                  | (go_wp2_with (first | (go_at_fn 128; refine (HIH.out mid t b d _ (by omega) hri.1 hri.2 (by have := HE1.out.2.2; have := (permIn_refl d a mid).1; omega) ((permIn_refl d a mid).1.trans HE1.out.2.2) S2.out (sorted_other HE1.out.2.1.s3 (permIn_refl d a mid) (.inr (Nat.le_refl _))) (sorted_other HE1.out.2.1.s4 (permIn_refl d a mid) (.inr (by omega)))).mono ?_; rintro e w3 ⟨rfl, e3, hp3, hq3, S4p⟩; have S4 : Aside _ := S4p; clear S4p; have HP3 : Aside (PermIn mid b d e3 ∧ SortedIn (ltOf cf) mid b e3) := ⟨hp3, hq3⟩; clear hp3 hq3))
                     go_end0
                     have hm := merged HE1.out.2.1 (by have := HE1.out.2.2; omega) (by omega) (by omega) (permIn_refl d a mid) (left_of HE1.out.2.1 (by omega)) HP3.out.1 HP3.out.2
                     exact ⟨rfl, _, permIn_trans _ _ _ a b HE1.out.1 hm.1, hm.2, S4.out⟩)
                · have ff : ¬ (mid : Int) < (t : Int) ∨ ((mid : Int) < (t : Int) ∧ ¬ (t : Int) < (b : Int)) := by omega
                  rcases ff with f1 | ⟨f1, f2⟩
                  · first
                    | (exfalso; omega)
                    | (go_wp2
                       go_end0
                       have hm := merged HE1.out.2.1 (by have := HE1.out.2.2; omega) (by omega) (by omega) (permIn_refl d a mid) (left_of HE1.out.2.1 (by omega)) (permIn_refl d mid b) (sorted_other (right_of HE1.out.2.1 (by omega)) (permIn_refl d a mid) (.inr (Nat.le_refl _)))
                       exact ⟨rfl, _, permIn_trans _ _ _ a b HE1.out.1 hm.1, hm.2, S2.out⟩)
                  · first
                    | (exfalso; omega)
                    | (go_wp2
                       go_end0
                       have hm := merged HE1.out.2.1 (by have := HE1.out.2.2; omega) (by omega) (by omega) (permIn_refl d a mid) (left_of HE1.out.2.1 (by omega)) (permIn_refl d mid b) (sorted_other (right_of HE1.out.2.1 (by omega)) (permIn_refl d a mid) (.inr (Nat.le_refl _)))
                       exact ⟨rfl, _, permIn_trans _ _ _ a b HE1.out.1 hm.1, hm.2, S2.out⟩)
              · by_cases hri : mid < t ∧ t < b
                · have f1 : (mid : Int) < (t : Int) := by omega
                  have f2 : (t : Int) < (b : Int) := by omega
                  first
                  | (exfalso; omega)
                  | (go_wp2_with (first | (go_at_fn 128; refine (HIH.out mid t b d _ (by omega) hri.1 hri.2 (by have := HE1.out.2.2; have := (permIn_refl d a mid).1; omega) ((permIn_refl d a mid).1.trans HE1.out.2.2) S2.out (sorted_other HE1.out.2.1.s3 (permIn_refl d a mid) (.inr (Nat.le_refl _))) (sorted_other HE1.out.2.1.s4 (permIn_refl d a mid) (.inr (by omega)))).mono ?_; rintro e w3 ⟨rfl, e3, hp3, hq3, S4p⟩; have S4 : Aside _ := S4p; clear S4p; have HP3 : Aside (PermIn mid b d e3 ∧ SortedIn (ltOf cf) mid b e3) := ⟨hp3, hq3⟩; clear hp3 hq3))
                     go_end0
                     have hm := merged HE1.out.2.1 (by have := HE1.out.2.2; omega) (by omega) (by omega) (permIn_refl d a mid) (left_of HE1.out.2.1 (by omega)) HP3.out.1 HP3.out.2
                     exact ⟨rfl, _, permIn_trans _ _ _ a b HE1.out.1 hm.1, hm.2, S4.out⟩)
                · have ff : ¬ (mid : Int) < (t : Int) ∨ ((mid : Int) < (t : Int) ∧ ¬ (t : Int) < (b : Int)) := by omega
                  rcases ff with f1 | ⟨f1, f2⟩
                  · first
                    | (exfalso; omega)
                    | (go_wp2
                       go_end0
                       have hm := merged HE1.out.2.1 (by have := HE1.out.2.2; omega) (by omega) (by omega) (permIn_refl d a mid) (left_of HE1.out.2.1 (by omega)) (permIn_refl d mid b) (sorted_other (right_of HE1.out.2.1 (by omega)) (permIn_refl d a mid) (.inr (Nat.le_refl _)))
                       exact ⟨rfl, _, permIn_trans _ _ _ a b HE1.out.1 hm.1, hm.2, S2.out⟩)
                  · first
                    | (exfalso; omega)
                    | (go_wp2
                       go_end0
                       have hm := merged HE1.out.2.1 (by have := HE1.out.2.2; omega) (by omega) (by omega) (permIn_refl d a mid) (left_of HE1.out.2.1 (by omega)) (permIn_refl d mid b) (sorted_other (right_of HE1.out.2.1 (by omega)) (permIn_refl d a mid) (.inr (Nat.le_refl _)))
                       exact ⟨rfl, _, permIn_trans _ _ _ a b HE1.out.1 hm.1, hm.2, S2.out⟩)
          · by_cases hle : a < s ∧ s < mid
            · have d1 : (a : Int) < (s : Int) := by omega
              have d2 : (s : Int) < (mid : Int) := by omega
              by_cases hri : mid < t ∧ t < b
              · have f1 : (mid : Int) < (t : Int) := by omega
                have f2 : (t : Int) < (b : Int) := by omega
                first
                | (exfalso; omega)
                | (go_wp2_with (first | (go_at_fn 128; refine (HIH.out a s mid d _ (by omega) hle.1 hle.2 (by have := HE1.out.2.2; omega) HE1.out.2.2 S2 HE1.out.2.1.s1 HE1.out.2.1.s2).mono ?_; rintro e w2 ⟨rfl, e2, hp2, hq2, S3p⟩; have S3 : Aside _ := S3p; clear S3p; have HP2 : Aside (PermIn a mid d e2 ∧ SortedIn (ltOf cf) a mid e2) := ⟨hp2, hq2⟩; clear hp2 hq2) | (go_at_fn 128; refine (HIH.out mid t b e2 _ (by omega) hri.1 hri.2 (by have := HE1.out.2.2; have := HP2.out.1.1; omega) (HP2.out.1.1.trans HE1.out.2.2) S3.out (sorted_other HE1.out.2.1.s3 HP2.out.1 (.inr (Nat.le_refl _))) (sorted_other HE1.out.2.1.s4 HP2.out.1 (.inr (by omega)))).mono ?_; rintro e w3 ⟨rfl, e3, hp3, hq3, S4p⟩; have S4 : Aside _ := S4p; clear S4p; have HP3 : Aside (PermIn mid b e2 e3 ∧ SortedIn (ltOf cf) mid b e3) := ⟨hp3, hq3⟩; clear hp3 hq3))
                   go_end0
                   have hm := merged HE1.out.2.1 (by have := HE1.out.2.2; omega) (by omega) (by omega) HP2.out.1 HP2.out.2 HP3.out.1 HP3.out.2
                   exact ⟨rfl, _, permIn_trans _ _ _ a b HE1.out.1 hm.1, hm.2, S4.out⟩)
              · have ff : ¬ (mid : Int) < (t : Int) ∨ ((mid : Int) < (t : Int) ∧ ¬ (t : Int) < (b : Int)) := by omega
                rcases ff with f1 | ⟨f1, f2⟩
                · first
                  | (exfalso; omega)
                  | (go_wp2_with (first | (go_at_fn 128; refine (HIH.out a s mid d _ (by omega) hle.1 hle.2 (by have := HE1.out.2.2; omega) HE1.out.2.2 S2 HE1.out.2.1.s1 HE1.out.2.1.s2).mono ?_; rintro e w2 ⟨rfl, e2, hp2, hq2, S3p⟩; have S3 : Aside _ := S3p; clear S3p; have HP2 : Aside (PermIn a mid d e2 ∧ SortedIn (ltOf cf) a mid e2) := ⟨hp2, hq2⟩; clear hp2 hq2))
                     go_end0
                     have hm := merged HE1.out.2.1 (by have := HE1.out.2.2; omega) (by omega) (by omega) HP2.out.1 HP2.out.2 (permIn_refl e2 mid b) (sorted_other (right_of HE1.out.2.1 (by omega)) HP2.out.1 (.inr (Nat.le_refl _)))
                     exact ⟨rfl, _, permIn_trans _ _ _ a b HE1.out.1 hm.1, hm.2, S3.out⟩)
                · first
                  | (exfalso; omega)
                  | (go_wp2_with (first | (go_at_fn 128; refine (HIH.out a s mid d _ (by omega) hle.1 hle.2 (by have := HE1.out.2.2; omega) HE1.out.2.2 S2 HE1.out.2.1.s1 HE1.out.2.1.s2).mono ?_; rintro e w2 ⟨rfl, e2, hp2, hq2, S3p⟩; have S3 : Aside _ := S3p; clear S3p; have HP2 : Aside (PermIn a mid d e2 ∧ SortedIn (ltOf cf) a mid e2) := ⟨hp2, hq2⟩; clear hp2 hq2))
                     go_end0
                     have hm := merged HE1.out.2.1 (by have := HE1.out.2.2; omega) (by omega) (by omega) HP2.out.1 HP2.out.2 (permIn_refl e2 mid b) (sorted_other (right_of HE1.out.2.1 (by omega)) HP2.out.1 (.inr (Nat.le_refl _)))
                     exact ⟨rfl, _, permIn_trans _ _ _ a b HE1.out.1 hm.1, hm.2, S3.out⟩)
            · have dd : ¬ (a : Int) < (s : Int) ∨ ((a : Int) < (s : Int) ∧ ¬ (s : Int) < (mid : Int)) := by omega
              rcases dd with d1 | ⟨d1, d2⟩
              · by_cases hri : mid < t ∧ t < b
                · have f1 : (mid : Int) < (t : Int) := by omega
                  have f2 : (t : Int) < (b : Int) := by omega
                  first
                  | (exfalso; omega)
                  | (go_wp2_with (first | (go_at_fn 128; refine (HIH.out mid t b d _ (by omega) hri.1 hri.2 (by have := HE1.out.2.2; have := (permIn_refl d a mid).1; omega) ((permIn_refl d a mid).1.trans HE1.out.2.2) S2.out (sorted_other HE1.out.2.1.s3 (permIn_refl d a mid) (.inr (Nat.le_refl _))) (sorted_other HE1.out.2.1.s4 (permIn_refl d a mid) (.inr (by omega)))).mono ?_; rintro e w3 ⟨rfl, e3, hp3, hq3, S4p⟩; have S4 : Aside _ := S4p; clear S4p; have HP3 : Aside (PermIn mid b d e3 ∧ SortedIn (ltOf cf) mid b e3) := ⟨hp3, hq3⟩; clear hp3 hq3))
                     go_end0
                     have hm := merged HE1.out.2.1 (by have := HE1.out.2.2; omega) (by omega) (by omega) (permIn_refl d a mid) (left_of HE1.out.2.1 (by omega)) HP3.out.1 HP3.out.2
                     exact ⟨rfl, _, permIn_trans _ _ _ a b HE1.out.1 hm.1, hm.2, S4.out⟩)
                · have ff : ¬ (mid : Int) < (t : Int) ∨ ((mid : Int) < (t : Int) ∧ ¬ (t : Int) < (b : Int)) := by omega
                  rcases ff with f1 | ⟨f1, f2⟩
                  · first
                    | (exfalso; omega)
                    | (go_wp2
                       go_end0
                       have hm := merged HE1.out.2.1 (by have := HE1.out.2.2; omega) (by omega) (by omega) (permIn_refl d a mid) (left_of HE1.out.2.1 (by omega)) (permIn_refl d mid b) (sorted_other (right_of HE1.out.2.1 (by omega)) (permIn_refl d a mid) (.inr (Nat.le_refl _)))
                       exact ⟨rfl, _, permIn_trans _ _ _ a b HE1.out.1 hm.1, hm.2, S2.out⟩)
                  · first
                    | (exfalso; omega)
                    | (go_wp2
                       go_end0
                       have hm := merged HE1.out.2.1 (by have := HE1.out.2.2; omega) (by omega) (by omega) (permIn_refl d a mid) (left_of HE1.out.2.1 (by omega)) (permIn_refl d mid b) (sorted_other (right_of HE1.out.2.1 (by omega)) (permIn_refl d a mid) (.inr (Nat.le_refl _)))
                       exact ⟨rfl, _, permIn_trans _ _ _ a b HE1.out.1 hm.1, hm.2, S2.out⟩)
              · by_cases hri : mid < t ∧ t < b
                · have f1 : (mid : Int) < (t : Int) := by omega
                  have f2 : (t : Int) < (b : Int) := by omega
                  first
                  | (exfalso; omega)
                  | (go_wp2_with (first | (go_at_fn 128; refine (HIH.out mid t b d _ (by omega) hri.1 hri.2 (by have := HE1.out.2.2; have := (permIn_refl d a mid).1; omega) ((permIn_refl d a mid).1.trans HE1.out.2.2) S2.out (sorted_other HE1.out.2.1.s3 (permIn_refl d a mid) (.inr (Nat.le_refl _))) (sorted_other HE1.out.2.1.s4 (permIn_refl d a mid) (.inr (by omega)))).mono ?_; rintro e w3 ⟨rfl, e3, hp3, hq3, S4p⟩; have S4 : Aside _ := S4p; clear S4p; have HP3 : Aside (PermIn mid b d e3 ∧ SortedIn (ltOf cf) mid b e3) := ⟨hp3, hq3⟩; clear hp3 hq3))
                     go_end0
                     have hm := merged HE1.out.2.1 (by have := HE1.out.2.2; omega) (by omega) (by omega) (permIn_refl d a mid) (left_of HE1.out.2.1 (by omega)) HP3.out.1 HP3.out.2
                     exact ⟨rfl, _, permIn_trans _ _ _ a b HE1.out.1 hm.1, hm.2, S4.out⟩)
                · have ff : ¬ (mid : Int) < (t : Int) ∨ ((mid : Int) < (t : Int) ∧ ¬ (t : Int) < (b : Int)) := by omega
                  rcases ff with f1 | ⟨f1, f2⟩
                  · first
                    | (exfalso; omega)
                    | (go_wp2
                       go_end0
                       have hm := merged HE1.out.2.1 (by have := HE1.out.2.2; omega) (by omega) (by omega) (permIn_refl d a mid) (left_of HE1.out.2.1 (by omega)) (permIn_refl d mid b) (sorted_other (right_of HE1.out.2.1 (by omega)) (permIn_refl d a mid) (.inr (Nat.le_refl _)))
                       exact ⟨rfl, _, permIn_trans _ _ _ a b HE1.out.1 hm.1, hm.2, S2.out⟩)
                  · first
                    | (exfalso; omega)
                    | (go_wp2
                       go_end0
                       have hm := merged HE1.out.2.1 (by have := HE1.out.2.2; omega) (by omega) (by omega) (permIn_refl d a mid) (left_of HE1.out.2.1 (by omega)) (permIn_refl d mid b) (sorted_other (right_of HE1.out.2.1 (by omega)) (permIn_refl d a mid) (.inr (Nat.le_refl _)))
                       exact ⟨rfl, _, permIn_trans _ _ _ a b HE1.out.1 hm.1, hm.2, S2.out⟩)
end Go.Proofs.Ytkeeknlfommieaa.PF
namespace Go.Proofs.Ytkeeknlfommieaa.PF
open Go.Proofs Go.Shelf Go.RowKit Go.Lib Go.Sort
variable {P : Program} {α : Type} [Inhabited α]

theorem symMerge_gen (L : LF P) (F128 : P.funcs[128]? = some Try.f128) (F140 : P.funcs[140]? = some Try.f140) (F144 : P.funcs[144]? = some Try.f144) (k : Nat) (aE : ∀ w, (isAgg 89).run P w = .ok true w) (zE : ∀ w, (Go.sizeOf 89).run P w = .ok k w) (enc : α → List Value) (cf : α → α → Int) (hS : SWO (ltOf cf)) (g : Nat) (cb : Array Value) (blk off cap size : Nat) (d0 : Array α) (w0 : World)
    (eg : ∀ args w, (callFunc g args).run P w = .ok (.enter g args) w) (hC : CmpLays P g cb enc k cf blk off size w0) (R : RowK enc k w0 blk off d0) (hs : d0.size = size) (hsz : size < 4611686018427387904) :
    ∀ (N a m b : Nat) (d : Array α) (w : World), b - a ≤ N → a < m → m < b → b ≤ d.size → d.size = size → SWK enc k w0 blk off d w → SortedIn (ltOf cf) a m d → SortedIn (ltOf cf) m b d → MergeCalls P k enc cf g cb blk off cap size w0 a m b d w := by
  intro N
  induction N with
  | zero => intro a m b d w h1 h2 h3; omega
  | succ N ih =>
    intro a m b d w hN ham hmb hb hd S h1 h2
    subst hd
    by_cases c1 : m = a + 1
    · subst c1
      exact symMerge_one L F128 k aE zE enc cf hS g cb blk off cap a b d0 d w0 w eg hC R hs S hmb hb hsz h2
    · by_cases c2 : b = m + 1
      · subst c2
        exact symMerge_last L F128 k aE zE enc cf hS g cb blk off cap a m d0 d w0 w eg hC R hs S (by omega) hb hsz h1
      · exact symMerge_step L F128 F140 F144 k aE zE enc cf hS g cb blk off cap a m b d0 d w0 w eg hC R hs S (by omega) (by omega) hb hsz h1 h2
          (fun a' m' b' e W q1 q2 q3 q4 q5 q6 q7 q8 => ih a' m' b' e W (by omega) q2 q3 q4 q5 q6 q7 q8)
end Go.Proofs.Ytkeeknlfommieaa.PF
namespace Go.Proofs.Ytkeeknlfommieaa.PF
open Go.Proofs Go.Shelf Go.RowKit Go.Lib Go.Sort
theorem lf : LF Try.prog := {
  mixed := by kernel_rfl
  t0 := Try.underlying0
  a0 := Try.isAgg0
  z0 := Try.sizeOf0
  v0 := Try.zeroValue0
  t3 := Try.underlying3
  a3 := Try.isAgg3
  z3 := Try.sizeOf3
  v3 := Try.zeroValue3
  t4 := Try.underlying4
  a4 := Try.isAgg4
  z4 := Try.sizeOf4
  v4 := Try.zeroValue4
  t87 := Try.underlying87
  a87 := Try.isAgg87
  z87 := Try.sizeOf87
  v87 := Try.zeroValue87
  t91 := Try.underlying91
  a91 := Try.isAgg91
  z91 := Try.sizeOf91
  v91 := Try.zeroValue91
  t108 := Try.underlying108
  a108 := Try.isAgg108
  z108 := Try.sizeOf108
  v108 := Try.zeroValue108 }
theorem merge_calls (g cap : Nat) (d0 d : Array FE) (w0 w : World) (hH : HoldsK FE.enc 6 w0 g 0 d0) (hblk : g < w0.heap.size) (hsz : d0.size < 4611686018427387904) (a m b : Nat) (ham : a < m) (hmb : m < b) (hb : b ≤ d.size) (hd : d.size = d0.size) (S : SWK FE.enc 6 w0 g 0 d w)
    (h1 : SortedIn (ltOf FE.cf) a m d) (h2 : SortedIn (ltOf FE.cf) m b d) : MergeCalls Try.prog 6 FE.enc FE.cf 75 #[] g 0 cap d0.size w0 a m b d w :=
  symMerge_gen lf Try.func128 Try.func140 Try.func144 6 Try.isAgg89 Try.sizeOf89 FE.enc FE.cf swo 75 #[] g 0 cap d0.size d0 w0 (enters_of Try.func75 (by kernel_rfl) rfl) (compare_lays _ _ _ _) ⟨FE.hk, FE.h1, hH, hblk⟩ rfl hsz (b - a) a m b d w (Nat.le_refl _) ham hmb hb hd S h1 h2
end Go.Proofs.Ytkeeknlfommieaa.PF
namespace Go.Proofs.Ytkeeknlfommieaa.PF
open Go.Proofs Go.Shelf Go.RowKit Go.Lib Go.Sort Go.Proofs.YtkeeknlfommieaaW.PrintWords Go.Proofs.YtkeeknlfommieaaW.PrintLast Go.Proofs.YtkeeknlfommieaaW.PrintMore

theorem ins_calls (g cap a b : Nat) (d0 d : Array FE) (w0 w : World) (hH : HoldsK FE.enc 6 w0 g 0 d0) (hblk : g < w0.heap.size) (hsz : d0.size < 4611686018427387904) (hab : a ≤ b) (hb : b ≤ d.size) (hd : d.size = d0.size) (S : SWK FE.enc 6 w0 g 0 d w) :
    Calls Try.prog 127 #[.slice (some ⟨g, 0, none⟩) d0.size cap, .int .i64 a, .int .i64 b, .func (.func 75) #[] #[]] w fun e w' => e = .returned (.tuple #[]) ∧ ∃ e', PermIn a b d e' ∧ SortedIn (ltOf FE.cf) a b e' ∧ SWK FE.enc 6 w0 g 0 e' w' := by
  have h := insertion_calls g 0 cap a b d w (S.holds hblk hH hd) (S.lt hblk) hab hb (by omega)
  have hs := insertionSort_holds (lt := ltOf FE.cf) swo d a b hab hb
  rw [hd] at h
  refine h.mono ?_
  rintro e w' ⟨rfl, n, os, rfl⟩
  exact ⟨rfl, _, hs.1, hs.2, S.on hblk n _ os hs.1.1⟩
set_option maxRecDepth 100000 in
set_option maxHeartbeats 4000000 in
theorem stable_two (g cap : Nat) (d : Array FE) (W : World) (hH : HoldsK FE.enc 6 W g 0 d) (hg : g < W.heap.size) (h1 : 20 < d.size) (h2 : d.size < 40) :
    Calls Try.prog 104 #[.slice (some ⟨g, 0, none⟩) d.size cap, .int .i64 d.size, .func (.func 75) #[] #[]] W (Sorted g d W) := by
  have HI := Aside0.mk (fun a b (e : Array FE) (w : World) => ins_calls g cap a b d e W w hH hg (by omega))
  have HM := Aside0.mk (fun a m b (e : Array FE) (w : World) => merge_calls g cap d e W w hH hg (by omega) a m b)
  have HS0 := Aside0.mk (SWK.start hH)
  clear hH hg
  have k1 : ¬ ((40 : Int) ≤ (d.size : Int)) := by omega
  have k2 : (20 : Int) ≤ (d.size : Int) := by omega
  have k3 : (20 : Int) < (d.size : Int) := by omega
  have k4 : ¬ ((40 : Int) < (d.size : Int)) := by omega
  go_enter Try.func104, Try.ntmps104
  go_wp2
  refine wp_loop_rounds 2 ?_
  rw [rounds_succ]
  go_wp2_with (go_at_call 127; refine (HI.out 0 20 d W (by omega) (by omega) rfl HS0.out).mono ?_; rintro e w1 ⟨rfl, e1, p1, q1, S1⟩)
  have HE1 := Aside0.mk (And.intro p1 (And.intro q1 S1))
  clear p1 q1 S1
  rw [rounds_succ]
  go_wp2_with (go_at_call 127; refine (HI.out 20 d.size e1 w1 (by omega) (by rw [HE1.out.1.1]; exact Nat.le_refl _) HE1.out.1.1 HE1.out.2.2).mono ?_; rintro e w2 ⟨rfl, e2, p2, q2, S2⟩; have HE2 := Aside0.mk (And.intro p2 (And.intro q2 S2)); clear p2 q2 S2)
  refine wp_loop_rounds 2 ?_
  rw [rounds_succ]
  go_wp2
  refine wp_loop_rounds 1 ?_
  rw [rounds_succ]
  have hz2 : e2.size = d.size := HE2.out.1.1.trans HE1.out.1.1
  go_wp2_with (go_at_call 128; refine (HM.out 0 20 d.size e2 w2 (by omega) (by omega) (by rw [hz2]; exact Nat.le_refl _) hz2 HE2.out.2.2 (sorted_other HE1.out.2.1 HE2.out.1 (.inl (Nat.le_refl _))) HE2.out.2.1).mono ?_; rintro e w3 ⟨rfl, e3, p3, q3, S3⟩; have HE3 := Aside0.mk (And.intro p3 (And.intro q3 S3)); clear p3 q3 S3)
  rw [rounds_succ]
  go_wp2
  go_end0
  obtain ⟨n, os, hw⟩ := HE3.out.2.2
  have hz1 := HE1.out.1.1
  exact ⟨rfl, e3, n, os, permIn_trans _ _ _ 0 d.size (permIn_trans _ _ _ 0 d.size (permIn_mono _ _ 0 20 0 d.size (Nat.le_refl _) (by omega) (Nat.le_refl _) HE1.out.1) (permIn_mono _ _ 20 d.size 0 d.size (by omega) (Nat.le_refl _) (by omega) HE2.out.1)) HE3.out.1, HE3.out.2.1, hw⟩
end Go.Proofs.Ytkeeknlfommieaa.PF
namespace Go.Proofs.Ytkeeknlfommieaa.PF
open Go.Proofs Go.Shelf Go.RowKit Go.Lib Go.Sort Go.Proofs.YtkeeknlfommieaaW.PrintWords Go.Proofs.YtkeeknlfommieaaW.PrintLast Go.Proofs.YtkeeknlfommieaaW.PrintMore
theorem sorted_to {a b b' : Nat} {d : Array FE} (h : SortedIn (ltOf FE.cf) a b d) (e : b' = b) : SortedIn (ltOf FE.cf) a b' d := e ▸ h

set_option maxRecDepth 100000 in
set_option maxHeartbeats 4000000 in
theorem stable_20 (g cap : Nat) (d : Array FE) (W : World) (hH : HoldsK FE.enc 6 W g 0 d) (hg : g < W.heap.size) (h1 : d.size = 20) :
    Calls Try.prog 104 #[.slice (some ⟨g, 0, none⟩) d.size cap, .int .i64 d.size, .func (.func 75) #[] #[]] W (Sorted g d W) := by
  have hb : d.size < 4611686018427387904 := by omega
  have HI := Aside0.mk (fun a b (e : Array FE) (w : World) => ins_calls g cap a b d e W w hH hg hb)
  have HM := Aside0.mk (fun a m b (e : Array FE) (w : World) => merge_calls g cap d e W w hH hg hb a m b)
  have HS0 := Aside0.mk (SWK.start hH)
  clear hH hg hb
  have k0 : ¬ ((40 : Int) ≤ (d.size : Int)) := by omega
  have k1 : (20 : Int) ≤ (d.size : Int) := by omega
  have k2 : ¬ ((20 : Int) < (d.size : Int)) := by omega
  have H1 := Aside0.mk h1
  clear h1
  have z0 : d.size = d.size := rfl
  go_enter Try.func104, Try.ntmps104
  go_wp2
  refine wp_loop_rounds 2 ?_
  rw [rounds_succ]
  have z0_ : d.size = d.size := rfl
  go_wp2_with (go_at_call 127; refine (HI.out 0 20 d W (by have := H1.out; omega) (by have := H1.out; have := z0_; omega) rfl HS0.out).mono ?_; rintro e w1 ⟨rfl, e1, p1, q1, S1⟩; have HE1 := Aside0.mk (And.intro p1 (And.intro q1 S1)); clear p1 q1 S1)
  have z1 : e1.size = d.size := HE1.out.1.1.trans rfl
  rw [rounds_succ]
  have z1_ : e1.size = d.size := z1
  go_wp2_with (go_at_call 127; refine (HI.out 20 d.size e1 w1 (by have := H1.out; omega) (by have := H1.out; have := z1_; omega) z1 HE1.out.2.2).mono ?_; rintro e w2 ⟨rfl, e2, p2, q2, S2⟩; have HE2 := Aside0.mk (And.intro p2 (And.intro q2 S2)); clear p2 q2 S2)
  have z2 : e2.size = d.size := HE2.out.1.1.trans z1
  refine wp_loop_rounds 1 ?_
  rw [rounds_succ]
  go_wp2
  go_end0
  obtain ⟨n, os, hw⟩ := HE2.out.2.2
  exact ⟨rfl, e2, n, os, (permIn_trans _ _ _ 0 d.size (permIn_mono _ _ 0 20 0 d.size (Nat.zero_le _) (by have := H1.out; omega) (by have := H1.out; have := z0; omega) HE1.out.1) (permIn_mono _ _ 20 d.size 0 d.size (Nat.zero_le _) (by have := H1.out; omega) (by have := H1.out; have := z1; omega) HE2.out.1)), sorted_to (sorted_other HE1.out.2.1 HE2.out.1 (.inl (Nat.le_refl _))) H1.out, hw⟩
set_option maxRecDepth 100000 in
set_option maxHeartbeats 4000000 in
theorem stable_40 (g cap : Nat) (d : Array FE) (W : World) (hH : HoldsK FE.enc 6 W g 0 d) (hg : g < W.heap.size) (h1 : d.size = 40) :
    Calls Try.prog 104 #[.slice (some ⟨g, 0, none⟩) d.size cap, .int .i64 d.size, .func (.func 75) #[] #[]] W (Sorted g d W) := by
  have hb : d.size < 4611686018427387904 := by omega
  have HI := Aside0.mk (fun a b (e : Array FE) (w : World) => ins_calls g cap a b d e W w hH hg hb)
  have HM := Aside0.mk (fun a m b (e : Array FE) (w : World) => merge_calls g cap d e W w hH hg hb a m b)
  have HS0 := Aside0.mk (SWK.start hH)
  clear hH hg hb
  have k0 : ¬ ((60 : Int) ≤ (d.size : Int)) := by omega
  have k1 : (40 : Int) ≤ (d.size : Int) := by omega
  have k2 : (20 : Int) ≤ (d.size : Int) := by omega
  have k3 : (20 : Int) < (d.size : Int) := by omega
  have k4 : ¬ ((40 : Int) < (d.size : Int)) := by omega
  have k5 : ¬ ((80 : Int) ≤ (d.size : Int)) := by omega
  have k6 : ¬ ((60 : Int) < (d.size : Int)) := by omega
  have H1 := Aside0.mk h1
  clear h1
  have z0 : d.size = d.size := rfl
  go_enter Try.func104, Try.ntmps104
  go_wp2
  refine wp_loop_rounds 3 ?_
  rw [rounds_succ]
  have z0_ : d.size = d.size := rfl
  go_wp2_with (go_at_call 127; refine (HI.out 0 20 d W (by have := H1.out; omega) (by have := H1.out; have := z0_; omega) rfl HS0.out).mono ?_; rintro e w1 ⟨rfl, e1, p1, q1, S1⟩; have HE1 := Aside0.mk (And.intro p1 (And.intro q1 S1)); clear p1 q1 S1)
  have z1 : e1.size = d.size := HE1.out.1.1.trans rfl
  rw [rounds_succ]
  have z1_ : e1.size = d.size := z1
  go_wp2_with (go_at_call 127; refine (HI.out 20 40 e1 w1 (by have := H1.out; omega) (by have := H1.out; have := z1_; omega) z1 HE1.out.2.2).mono ?_; rintro e w2 ⟨rfl, e2, p2, q2, S2⟩; have HE2 := Aside0.mk (And.intro p2 (And.intro q2 S2)); clear p2 q2 S2)
  have z2 : e2.size = d.size := HE2.out.1.1.trans z1
  rw [rounds_succ]
  have z2_ : e2.size = d.size := z2
  go_wp2_with (go_at_call 127; refine (HI.out 40 d.size e2 w2 (by have := H1.out; omega) (by have := H1.out; have := z2_; omega) z2 HE2.out.2.2).mono ?_; rintro e w3 ⟨rfl, e3, p3, q3, S3⟩; have HE3 := Aside0.mk (And.intro p3 (And.intro q3 S3)); clear p3 q3 S3)
  have z3 : e3.size = d.size := HE3.out.1.1.trans z2
  refine wp_loop_rounds 2 ?_
  rw [rounds_succ]
  go_wp2
  refine wp_loop_rounds 2 ?_
  rw [rounds_succ]
  go_wp2_with (go_at_call 128; refine (HM.out 0 20 40 e3 w3 (by have := H1.out; omega) (by have := H1.out; omega) (by have := H1.out; have := z3; omega) z3 HE3.out.2.2 (sorted_other (sorted_other HE1.out.2.1 HE2.out.1 (.inl (Nat.le_refl _))) HE3.out.1 (.inl (by omega))) (sorted_other HE2.out.2.1 HE3.out.1 (.inl (Nat.le_refl _)))).mono ?_; rintro e w4 ⟨rfl, e4, p4, q4, S4⟩; have HE4 := Aside0.mk (And.intro p4 (And.intro q4 S4)); clear p4 q4 S4)
  have z4 : e4.size = d.size := HE4.out.1.1.trans z3
  rw [rounds_succ]
  go_wp2
  rw [rounds_succ]
  go_wp2
  go_end0
  obtain ⟨n, os, hw⟩ := HE4.out.2.2
  exact ⟨rfl, e4, n, os, (permIn_trans _ _ _ 0 d.size (permIn_trans _ _ _ 0 d.size (permIn_trans _ _ _ 0 d.size (permIn_mono _ _ 0 20 0 d.size (Nat.zero_le _) (by have := H1.out; omega) (by have := H1.out; have := z0; omega) HE1.out.1) (permIn_mono _ _ 20 40 0 d.size (Nat.zero_le _) (by have := H1.out; omega) (by have := H1.out; have := z1; omega) HE2.out.1)) (permIn_mono _ _ 40 d.size 0 d.size (Nat.zero_le _) (by have := H1.out; omega) (by have := H1.out; have := z2; omega) HE3.out.1)) (permIn_mono _ _ 0 40 0 d.size (Nat.zero_le _) (by have := H1.out; omega) (by have := H1.out; have := z3; omega) HE4.out.1)), sorted_to HE4.out.2.1 H1.out, hw⟩
set_option maxRecDepth 100000 in
set_option maxHeartbeats 4000000 in
theorem stable_3 (g cap : Nat) (d : Array FE) (W : World) (hH : HoldsK FE.enc 6 W g 0 d) (hg : g < W.heap.size) (h1 : 40 < d.size ∧ d.size < 60) :
    Calls Try.prog 104 #[.slice (some ⟨g, 0, none⟩) d.size cap, .int .i64 d.size, .func (.func 75) #[] #[]] W (Sorted g d W) := by
  have hb : d.size < 4611686018427387904 := by omega
  have HI := Aside0.mk (fun a b (e : Array FE) (w : World) => ins_calls g cap a b d e W w hH hg hb)
  have HM := Aside0.mk (fun a m b (e : Array FE) (w : World) => merge_calls g cap d e W w hH hg hb a m b)
  have HS0 := Aside0.mk (SWK.start hH)
  clear hH hg hb
  have k0 : ¬ ((60 : Int) ≤ (d.size : Int)) := by omega
  have k1 : (40 : Int) ≤ (d.size : Int) := by omega
  have k2 : (20 : Int) ≤ (d.size : Int) := by omega
  have k3 : (20 : Int) < (d.size : Int) := by omega
  have k4 : (40 : Int) < (d.size : Int) := by omega
  have k5 : ¬ ((80 : Int) ≤ (d.size : Int)) := by omega
  have k6 : ¬ ((60 : Int) < (d.size : Int)) := by omega
  have k7 : ¬ ((80 : Int) < (d.size : Int)) := by omega
  have H1 := Aside0.mk h1
  clear h1
  have z0 : d.size = d.size := rfl
  go_enter Try.func104, Try.ntmps104
  go_wp2
  refine wp_loop_rounds 3 ?_
  rw [rounds_succ]
  have z0_ : d.size = d.size := rfl
  go_wp2_with (go_at_call 127; refine (HI.out 0 20 d W (by have := H1.out; omega) (by have := H1.out; have := z0_; omega) rfl HS0.out).mono ?_; rintro e w1 ⟨rfl, e1, p1, q1, S1⟩; have HE1 := Aside0.mk (And.intro p1 (And.intro q1 S1)); clear p1 q1 S1)
  have z1 : e1.size = d.size := HE1.out.1.1.trans rfl
  rw [rounds_succ]
  have z1_ : e1.size = d.size := z1
  go_wp2_with (go_at_call 127; refine (HI.out 20 40 e1 w1 (by have := H1.out; omega) (by have := H1.out; have := z1_; omega) z1 HE1.out.2.2).mono ?_; rintro e w2 ⟨rfl, e2, p2, q2, S2⟩; have HE2 := Aside0.mk (And.intro p2 (And.intro q2 S2)); clear p2 q2 S2)
  have z2 : e2.size = d.size := HE2.out.1.1.trans z1
  rw [rounds_succ]
  have z2_ : e2.size = d.size := z2
  go_wp2_with (go_at_call 127; refine (HI.out 40 d.size e2 w2 (by have := H1.out; omega) (by have := H1.out; have := z2_; omega) z2 HE2.out.2.2).mono ?_; rintro e w3 ⟨rfl, e3, p3, q3, S3⟩; have HE3 := Aside0.mk (And.intro p3 (And.intro q3 S3)); clear p3 q3 S3)
  have z3 : e3.size = d.size := HE3.out.1.1.trans z2
  refine wp_loop_rounds 3 ?_
  rw [rounds_succ]
  go_wp2
  refine wp_loop_rounds 2 ?_
  rw [rounds_succ]
  go_wp2_with (go_at_call 128; refine (HM.out 0 20 40 e3 w3 (by have := H1.out; omega) (by have := H1.out; omega) (by have := H1.out; have := z3; omega) z3 HE3.out.2.2 (sorted_other (sorted_other HE1.out.2.1 HE2.out.1 (.inl (Nat.le_refl _))) HE3.out.1 (.inl (by omega))) (sorted_other HE2.out.2.1 HE3.out.1 (.inl (Nat.le_refl _)))).mono ?_; rintro e w4 ⟨rfl, e4, p4, q4, S4⟩; have HE4 := Aside0.mk (And.intro p4 (And.intro q4 S4)); clear p4 q4 S4)
  have z4 : e4.size = d.size := HE4.out.1.1.trans z3
  rw [rounds_succ]
  go_wp2
  rw [rounds_succ]
  go_wp2
  refine wp_loop_rounds 1 ?_
  rw [rounds_succ]
  go_wp2_with (go_at_call 128; refine (HM.out 0 40 d.size e4 w4 (by have := H1.out; omega) (by have := H1.out; omega) (by have := H1.out; have := z4; omega) z4 HE4.out.2.2 HE4.out.2.1 (sorted_other HE3.out.2.1 HE4.out.1 (.inr (Nat.le_refl _)))).mono ?_; rintro e w5 ⟨rfl, e5, p5, q5, S5⟩; have HE5 := Aside0.mk (And.intro p5 (And.intro q5 S5)); clear p5 q5 S5)
  have z5 : e5.size = d.size := HE5.out.1.1.trans z4
  rw [rounds_succ]
  go_wp2
  go_end0
  obtain ⟨n, os, hw⟩ := HE5.out.2.2
  exact ⟨rfl, e5, n, os, (permIn_trans _ _ _ 0 d.size (permIn_trans _ _ _ 0 d.size (permIn_trans _ _ _ 0 d.size (permIn_trans _ _ _ 0 d.size (permIn_mono _ _ 0 20 0 d.size (Nat.zero_le _) (by have := H1.out; omega) (by have := H1.out; have := z0; omega) HE1.out.1) (permIn_mono _ _ 20 40 0 d.size (Nat.zero_le _) (by have := H1.out; omega) (by have := H1.out; have := z1; omega) HE2.out.1)) (permIn_mono _ _ 40 d.size 0 d.size (Nat.zero_le _) (by have := H1.out; omega) (by have := H1.out; have := z2; omega) HE3.out.1)) (permIn_mono _ _ 0 40 0 d.size (Nat.zero_le _) (by have := H1.out; omega) (by have := H1.out; have := z3; omega) HE4.out.1)) (permIn_mono _ _ 0 d.size 0 d.size (Nat.zero_le _) (by have := H1.out; omega) (by have := H1.out; have := z4; omega) HE5.out.1)), HE5.out.2.1, hw⟩
set_option maxRecDepth 100000 in
set_option maxHeartbeats 4000000 in
theorem stable_60 (g cap : Nat) (d : Array FE) (W : World) (hH : HoldsK FE.enc 6 W g 0 d) (hg : g < W.heap.size) (h1 : d.size = 60) :
    Calls Try.prog 104 #[.slice (some ⟨g, 0, none⟩) d.size cap, .int .i64 d.size, .func (.func 75) #[] #[]] W (Sorted g d W) := by
  have hb : d.size < 4611686018427387904 := by omega
  have HI := Aside0.mk (fun a b (e : Array FE) (w : World) => ins_calls g cap a b d e W w hH hg hb)
  have HM := Aside0.mk (fun a m b (e : Array FE) (w : World) => merge_calls g cap d e W w hH hg hb a m b)
  have HS0 := Aside0.mk (SWK.start hH)
  clear hH hg hb
  have k0 : (60 : Int) ≤ (d.size : Int) := by omega
  have k1 : (40 : Int) ≤ (d.size : Int) := by omega
  have k2 : (20 : Int) ≤ (d.size : Int) := by omega
  have k3 : (20 : Int) < (d.size : Int) := by omega
  have k4 : (40 : Int) < (d.size : Int) := by omega
  have k5 : ¬ ((80 : Int) ≤ (d.size : Int)) := by omega
  have k6 : ¬ ((60 : Int) < (d.size : Int)) := by omega
  have k7 : ¬ ((80 : Int) < (d.size : Int)) := by omega
  have H1 := Aside0.mk h1
  clear h1
  have z0 : d.size = d.size := rfl
  go_enter Try.func104, Try.ntmps104
  go_wp2
  refine wp_loop_rounds 4 ?_
  rw [rounds_succ]
  have z0_ : d.size = d.size := rfl
  go_wp2_with (go_at_call 127; refine (HI.out 0 20 d W (by have := H1.out; omega) (by have := H1.out; have := z0_; omega) rfl HS0.out).mono ?_; rintro e w1 ⟨rfl, e1, p1, q1, S1⟩; have HE1 := Aside0.mk (And.intro p1 (And.intro q1 S1)); clear p1 q1 S1)
  have z1 : e1.size = d.size := HE1.out.1.1.trans rfl
  rw [rounds_succ]
  have z1_ : e1.size = d.size := z1
  go_wp2_with (go_at_call 127; refine (HI.out 20 40 e1 w1 (by have := H1.out; omega) (by have := H1.out; have := z1_; omega) z1 HE1.out.2.2).mono ?_; rintro e w2 ⟨rfl, e2, p2, q2, S2⟩; have HE2 := Aside0.mk (And.intro p2 (And.intro q2 S2)); clear p2 q2 S2)
  have z2 : e2.size = d.size := HE2.out.1.1.trans z1
  rw [rounds_succ]
  have z2_ : e2.size = d.size := z2
  go_wp2_with (go_at_call 127; refine (HI.out 40 60 e2 w2 (by have := H1.out; omega) (by have := H1.out; have := z2_; omega) z2 HE2.out.2.2).mono ?_; rintro e w3 ⟨rfl, e3, p3, q3, S3⟩; have HE3 := Aside0.mk (And.intro p3 (And.intro q3 S3)); clear p3 q3 S3)
  have z3 : e3.size = d.size := HE3.out.1.1.trans z2
  rw [rounds_succ]
  have z3_ : e3.size = d.size := z3
  go_wp2_with (go_at_call 127; refine (HI.out 60 d.size e3 w3 (by have := H1.out; omega) (by have := H1.out; have := z3_; omega) z3 HE3.out.2.2).mono ?_; rintro e w6 ⟨rfl, e6, p6, q6, S6⟩; have HE6 := Aside0.mk (And.intro p6 (And.intro q6 S6)); clear p6 q6 S6)
  have z6 : e6.size = d.size := HE6.out.1.1.trans z3
  refine wp_loop_rounds 3 ?_
  rw [rounds_succ]
  go_wp2
  refine wp_loop_rounds 2 ?_
  rw [rounds_succ]
  go_wp2_with (go_at_call 128; refine (HM.out 0 20 40 e6 w6 (by have := H1.out; omega) (by have := H1.out; omega) (by have := H1.out; have := z6; omega) z6 HE6.out.2.2 (sorted_other (sorted_other (sorted_other HE1.out.2.1 HE2.out.1 (.inl (Nat.le_refl _))) HE3.out.1 (.inl (by omega))) HE6.out.1 (.inl (by omega))) (sorted_other (sorted_other HE2.out.2.1 HE3.out.1 (.inl (Nat.le_refl _))) HE6.out.1 (.inl (by omega)))).mono ?_; rintro e w4 ⟨rfl, e4, p4, q4, S4⟩; have HE4 := Aside0.mk (And.intro p4 (And.intro q4 S4)); clear p4 q4 S4)
  have z4 : e4.size = d.size := HE4.out.1.1.trans z6
  rw [rounds_succ]
  go_wp2
  rw [rounds_succ]
  go_wp2
  refine wp_loop_rounds 1 ?_
  rw [rounds_succ]
  go_wp2_with (go_at_call 128; refine (HM.out 0 40 d.size e4 w4 (by have := H1.out; omega) (by have := H1.out; omega) (by have := H1.out; have := z4; omega) z4 HE4.out.2.2 HE4.out.2.1 (sorted_to (sorted_other (sorted_other HE3.out.2.1 HE6.out.1 (.inl (Nat.le_refl _))) HE4.out.1 (.inr (Nat.le_refl _))) H1.out)).mono ?_; rintro e w5 ⟨rfl, e5, p5, q5, S5⟩; have HE5 := Aside0.mk (And.intro p5 (And.intro q5 S5)); clear p5 q5 S5)
  have z5 : e5.size = d.size := HE5.out.1.1.trans z4
  rw [rounds_succ]
  go_wp2
  go_end0
  obtain ⟨n, os, hw⟩ := HE5.out.2.2
  exact ⟨rfl, e5, n, os, (permIn_trans _ _ _ 0 d.size (permIn_trans _ _ _ 0 d.size (permIn_trans _ _ _ 0 d.size (permIn_trans _ _ _ 0 d.size (permIn_trans _ _ _ 0 d.size (permIn_mono _ _ 0 20 0 d.size (Nat.zero_le _) (by have := H1.out; omega) (by have := H1.out; have := z0; omega) HE1.out.1) (permIn_mono _ _ 20 40 0 d.size (Nat.zero_le _) (by have := H1.out; omega) (by have := H1.out; have := z1; omega) HE2.out.1)) (permIn_mono _ _ 40 60 0 d.size (Nat.zero_le _) (by have := H1.out; omega) (by have := H1.out; have := z2; omega) HE3.out.1)) (permIn_mono _ _ 60 d.size 0 d.size (Nat.zero_le _) (by have := H1.out; omega) (by have := H1.out; have := z3; omega) HE6.out.1)) (permIn_mono _ _ 0 40 0 d.size (Nat.zero_le _) (by have := H1.out; omega) (by have := H1.out; have := z6; omega) HE4.out.1)) (permIn_mono _ _ 0 d.size 0 d.size (Nat.zero_le _) (by have := H1.out; omega) (by have := H1.out; have := z4; omega) HE5.out.1)), HE5.out.2.1, hw⟩
theorem sort_60 : SortOK 60 := sort_of fun g cap d W hH hg h0 hd => by
  by_cases h : d.size < 20
  · exact stable_small g cap d W hH hg h
  · by_cases h2 : d.size = 20
    · exact stable_20 g cap d W hH hg h2
    · by_cases h3 : d.size < 40
      · exact stable_two g cap d W hH hg (by omega) h3
      · by_cases h4 : d.size = 40
        · exact stable_40 g cap d W hH hg h4
        · by_cases h5 : d.size < 60
          · exact stable_3 g cap d W hH hg ⟨by omega, h5⟩
          · exact stable_60 g cap d W hH hg (by omega)
end Go.Proofs.Ytkeeknlfommieaa.PF
