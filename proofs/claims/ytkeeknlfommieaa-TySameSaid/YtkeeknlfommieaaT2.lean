/- Plain words: equality as a Bool; a cut and its head. -/
import Derived.Test.YtkeeknlfommieaaT1
namespace Go.Proofs.Ytkeeknlfommieaa.PF
noncomputable def eqB {α : Type} (a b : α) : Bool := @decide (a = b) (Classical.propDecidable _)
theorem eqB_iff {α : Type} {a b : α} : eqB a b = true ↔ a = b := by unfold eqB; exact @decide_eq_true_iff _ (Classical.propDecidable _)
theorem eqB_self {α : Type} (a : α) : eqB a a = true := eqB_iff.2 rfl
theorem eqB_false {α : Type} {a b : α} (h : a ≠ b) : eqB a b = false := by rw [← Bool.not_eq_true]; exact fun e => h (eqB_iff.1 e)
theorem eqB_comm {α : Type} (a b : α) : eqB a b = eqB b a := by rw [Bool.eq_iff_iff, eqB_iff, eqB_iff]; exact eq_comm
theorem eqB_congr {α β : Type} {a b : α} {c d : β} (h : a = b ↔ c = d) : eqB a b = eqB c d := by rw [Bool.eq_iff_iff, eqB_iff, eqB_iff]; exact h
theorem drop_head {α : Type} (l : List α) (i : Nat) (h : i < l.length) : l.drop i = l[i] :: l.drop (i + 1) := List.drop_eq_getElem_cons h
theorem bytes_ext {a b : ByteArray} (h : a.toList = b.toList) : a = b := by
  rw [ByteArray.toList_eq, ByteArray.toList_eq] at h
  cases a; cases b
  simp at h
  rw [h]
theorem bytes_iff {a b : ByteArray} : a.toList = b.toList ↔ a = b := ⟨bytes_ext, fun h => by rw [h]⟩
theorem s26_eta (t : S26) : t = ⟨t.f0, t.f1, t.f2, t.f3, t.f4⟩ := by cases t; rfl
theorem s26_iff (a b : S26) : a = b ↔ a.f0 = b.f0 ∧ a.f1 = b.f1 ∧ a.f2 = b.f2 ∧ a.f3 = b.f3 ∧ a.f4 = b.f4 := by
  cases a; cases b
  simp
end Go.Proofs.Ytkeeknlfommieaa.PF
