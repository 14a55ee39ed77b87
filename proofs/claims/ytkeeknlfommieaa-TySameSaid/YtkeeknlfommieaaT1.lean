/- Plain words on types: which are right. -/
import Derived.Test.YtkeeknlfommieaaB0
import Derived.Test.YtkeeknlfommieaaT0
namespace Go.Proofs.Ytkeeknlfommieaa.PF

theorem S26.ind {P : S26 → Prop} (h : ∀ k n nm ls ar, (∀ x ∈ ar, P x) → P ⟨k, n, nm, ls, ar⟩) : ∀ t, P t
  | ⟨k, n, nm, ls, ar⟩ => h k n nm ls ar (fun x _ => S26.ind h x)
termination_by t => SizeOf.sizeOf t

def bareT (k n : Int) (nm : ByteArray) (ls : List ByteArray) : Bool := (decide (k = 6) || nm.data.toList.isEmpty) && (decide (k = 9) || decide (n = 0)) && (decide (k = 8) || decide (ls.length = 0))
def kindT (k n : Int) (nm : ByteArray) (ls : List ByteArray) (m : Nat) : Bool :=
  if 1 ≤ k ∧ k ≤ 5 then decide (m = 0) else if k = 6 then decide (m = 0) && varN nm.data.toList else if k = 9 then decide (m = 0) && decide (0 ≤ n ∧ n ≤ 1073741824)
  else if k = 7 then decide (m = 2) else if k = 8 then decide (m = ls.length) && risingN (bl ls) else false
mutual
def rightT : S26 → Bool
  | ⟨k, n, nm, ls, ar⟩ => bareT k n nm ls && rightL ar && kindT k n nm ls ar.length
def rightL : List S26 → Bool
  | [] => true
  | x :: l => rightT x && rightL l
end
theorem rightL_all (l : List S26) : rightL l = l.all rightT := by
  induction l with
  | nil => rfl
  | cons x l ih => rw [rightL, List.all_cons, ih]
theorem rightT_eq (t : S26) : rightT t = (bareT t.f0 t.f1 t.f2 t.f3 && t.f4.all rightT && kindT t.f0 t.f1 t.f2 t.f3 t.f4.length) := by
  cases t
  rw [rightT, rightL_all]
theorem any_not (l : List S26) : (l.any fun x => !rightT x) = !l.all rightT := by
  induction l with
  | nil => rfl
  | cons x l ih => rw [List.any_cons, List.all_cons, ih, Bool.not_and]
end Go.Proofs.Ytkeeknlfommieaa.PF
