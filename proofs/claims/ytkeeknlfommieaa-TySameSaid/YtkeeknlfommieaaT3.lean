/- Records, in plain words: sorted fields are one list. -/
import Derived.Test.YtkeeknlfommieaaD3
namespace Go.Proofs.Ytkeeknlfommieaa.PF

theorem perm_eq {α : Type} {R : α → α → Prop} : ∀ (l m : List α), l.Perm m → l.Pairwise R → m.Pairwise R → (∀ a b, a ∈ l → b ∈ l → R a b → R b a → a = b) → l = m := by
  intro l
  induction l with
  | nil => intro m hp _ _ _; exact (List.nil_perm.1 hp).symm
  | cons a l ih =>
    intro m hp h1 h2 ha
    cases m with
    | nil => exact absurd hp.length_eq (by simp)
    | cons b m =>
      have hab : a = b := by
        by_cases e : a = b
        · exact e
        · have hbl : b ∈ l := by
            have : b ∈ a :: l := hp.symm.subset (List.mem_cons_self)
            rcases List.mem_cons.1 this with h | h
            · exact absurd h.symm e
            · exact h
          have ham : a ∈ m := by
            have : a ∈ b :: m := hp.subset (List.mem_cons_self)
            rcases List.mem_cons.1 this with h | h
            · exact absurd h e
            · exact h
          exact ha a b List.mem_cons_self (List.mem_cons_of_mem _ hbl) ((List.pairwise_cons.1 h1).1 b hbl) ((List.pairwise_cons.1 h2).1 a ham)
      subst hab
      rw [ih m ((List.perm_cons a).1 hp) (List.pairwise_cons.1 h1).2 (List.pairwise_cons.1 h2).2 (fun x y hx hy => ha x y (List.mem_cons_of_mem _ hx) (List.mem_cons_of_mem _ hy))]

def key (a : ByteArray × S26) : List UInt8 := a.1.data.toList
theorem bl_key (ps : List (ByteArray × S26)) : bl (ps.map Prod.fst) = ps.map key := by unfold bl; rw [List.map_map]; rfl
theorem rise_lt {l : List (List UInt8)} (h : risingN l = true) (j : Nat) (hj : j + 1 < l.length) : l[j] < l[j + 1] := by
  have h1 := allUp_iff.1 h (j + 1) hj
  unfold riseAt at h1
  simp only [Bool.and_eq_true, Bool.or_eq_true, decide_eq_true_iff] at h1
  have h2 := h1.2.resolve_left (by omega)
  simp only [Nat.add_sub_cancel, List.getD_eq_getElem?_getD, List.getElem?_eq_getElem hj, List.getElem?_eq_getElem (show j < l.length by omega), Option.getD_some] at h2
  rw [bytesLess_eq, decide_eq_true_iff] at h2
  exact h2
theorem rise_pair {ps : List (ByteArray × S26)} (h : risingN (ps.map key) = true) : ps.Pairwise fun a b => key a < key b := by
  rw [List.pairwise_iff_getElem]
  intro i j hi hj hij
  have hl : (ps.map key).length = ps.length := by simp
  have : ∀ d, i + d + 1 < ps.length → ∀ (hh : i + d + 1 < (ps.map key).length), (ps.map key)[i]'(by omega) < (ps.map key)[i + d + 1] := by
    intro d
    induction d with
    | zero => intro _ hh; exact rise_lt h i (by omega)
    | succ d ih => intro h1 hh; exact List.lt_trans (ih (by omega) (by omega)) (rise_lt h (i + d + 1) (by omega))
  have h2 := this (j - i - 1) (by omega) (by omega)
  simp only [show i + (j - i - 1) + 1 = j by omega, List.getElem_map] at h2
  exact h2
theorem recOf_unique (ps qs : List (ByteArray × S26)) (hp : qs.Perm ps) (hs : qs.Pairwise fun a b => ¬ key b < key a) : recOf (ps.mergeSort leP) = recOf qs := by
  have hp2 : (ps.mergeSort leP).Perm qs := (List.mergeSort_perm ps leP).trans hp.symm
  have hs2 : (ps.mergeSort leP).Pairwise fun a b => leP a b = true := List.pairwise_mergeSort (fun a b c h1 h2 => by
    unfold leP at *
    simp only [decide_eq_true_iff] at *
    exact List.le_trans h1 h2) (fun a b => by
    unfold leP
    rcases List.le_total a.1.data.toList b.1.data.toList with h | h <;> simp [h]) ps
  have hk : (ps.mergeSort leP).map key = qs.map key := by
    refine perm_eq (R := fun a b => ¬ b < a) _ _ (hp2.map key) ?_ ?_ ?_
    · rw [List.pairwise_map]
      exact hs2.imp fun {a b} h => by unfold leP at h; simpa [key] using h
    · rw [List.pairwise_map]; exact hs
    · intro a b _ _ h1 h2; exact List.le_antisymm (List.not_lt.1 h1) (List.not_lt.1 h2)
  unfold recOf
  rw [bl_key, bl_key, hk]
  by_cases hr : risingN (qs.map key) = true
  · rw [if_pos hr, if_pos hr]
    have : ps.mergeSort leP = qs := perm_eq (R := fun a b => key a < key b) _ _ hp2 (rise_pair (by rw [hk]; exact hr)) (rise_pair hr) (fun a b _ _ h1 h2 => absurd h2 (List.lt_asymm h1))
    rw [this]
  · rw [if_neg hr, if_neg hr]
theorem recT_eq {ls : List ByteArray} {ar : List S26} (hl : ls.length = ar.length) (qs : List (ByteArray × S26)) (hp : qs.Perm (ls.zip ar)) (hs : qs.Pairwise fun a b => ¬ key b < key a) : recT ls ar = recOf qs := by
  unfold recT
  rw [if_pos hl]
  exact recOf_unique _ _ hp hs
theorem recT_es {ls : List ByteArray} {ar : List S26} {es es' : List FE} (h1 : es.map FE.l = ls) (h2 : es.map (fun e => e.v.x) = ar) (hp : es'.Perm es) (hs : es'.Pairwise fun a b => ¬ b.l.data.toList < a.l.data.toList) :
    recT ls ar = if risingN (bl (es'.map FE.l)) = true then (⟨8, 0, ⟨#[]⟩, es'.map FE.l, es'.map fun e => e.v.x⟩, true) else (z26, false) := by
  subst h1 h2
  rw [recT_eq (by simp) (es'.map fun e => (e.l, e.v.x)) ?_ ?_]
  · unfold recOf
    simp only [List.map_map]
    rfl
  · have : ∀ l : List FE, (l.map FE.l).zip (l.map fun e => e.v.x) = l.map fun e => (e.l, e.v.x) := fun l => by
      induction l with
      | nil => rfl
      | cons a l ih => simp [ih]
    rw [this]
    exact hp.map _
  · rw [List.pairwise_map]; exact hs
end Go.Proofs.Ytkeeknlfommieaa.PF
