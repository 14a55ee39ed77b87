/- Plain words on names: what a text is by its letters, which words are kept, lists that rise. -/
import GoSem.Op.String
namespace Go.Proofs.Ytkeeknlfommieaa.PF

def lowB (c : Nat) : Bool := decide (97 ≤ c) && decide (c ≤ 122)
def upB (c : Nat) : Bool := decide (65 ≤ c) && decide (c ≤ 90)
def digB (c : Nat) : Bool := decide (48 ≤ c) && decide (c ≤ 57)
/-- The rest of a name of kind q. -/
def restN (q : Int) (r : List UInt8) : Int := if r.all (fun d => lowB d.toNat || digB d.toNat || (decide (q = 2) && upB d.toNat)) then q else 0
def shapeS (k : Nat) (q : Int) (r : List UInt8) : Int :=
  if k = 0 then (match r with | [] => 0 | c :: t => if lowB c.toNat then restN 1 t else if upB c.toNat then restN 2 t else 0) else restN q r
def shapeN (l : List UInt8) : Int := if 8 < l.length then 0 else shapeS 0 0 l
def keptL : List (List UInt8) := [[108, 101, 116], [105, 110], [105, 102], [116, 104, 101, 110], [101, 108, 115, 101], [102, 110], [99, 97, 108, 108], [100, 101, 102], [116, 114, 117, 101], [102, 97, 108, 115, 101]]
def wordL : List (List UInt8) := [[73, 110, 116], [66, 111, 111, 108], [83, 116, 114, 105, 110, 103], [84, 111, 112]]
def kindN (l : List UInt8) : Int := if l ∈ keptL then 3 else if l ∈ wordL then 4 else shapeN l
def fineN (l : List UInt8) : Bool := kindN l == 1
def varN (l : List UInt8) : Bool := kindN l == 2

theorem restN_cons (q : Int) (c : UInt8) (r : List UInt8) : restN q (c :: r) = if (lowB c.toNat || digB c.toNat || (decide (q = 2) && upB c.toNat)) = true then restN q r else 0 := by
  unfold restN
  rw [List.all_cons]
  cases (lowB c.toNat || digB c.toNat || (decide (q = 2) && upB c.toNat)) <;> simp
theorem shapeS_0nil (q : Int) : shapeS 0 q [] = 0 := rfl
theorem shapeS_0low (q : Int) (c : UInt8) (t : List UInt8) (h : lowB c.toNat = true) : shapeS 0 q (c :: t) = shapeS 1 1 t := by simp [shapeS, h]
theorem shapeS_0up (q : Int) (c : UInt8) (t : List UInt8) (h : lowB c.toNat = false) (h2 : upB c.toNat = true) : shapeS 0 q (c :: t) = shapeS 1 2 t := by simp [shapeS, h, h2]
theorem shapeS_0no (q : Int) (c : UInt8) (t : List UInt8) (h : lowB c.toNat = false) (h2 : upB c.toNat = false) : shapeS 0 q (c :: t) = 0 := by simp [shapeS, h, h2]
theorem shapeS_yes (k : Nat) (q : Int) (c : UInt8) (t : List UInt8) (hk : 0 < k) (h : (lowB c.toNat || digB c.toNat || (decide (q = 2) && upB c.toNat)) = true) : shapeS k q (c :: t) = shapeS (k + 1) q t := by
  simp only [shapeS, restN_cons, h, if_true]
  rw [if_neg (by omega), if_neg (by omega)]
theorem shapeS_no (k : Nat) (q : Int) (c : UInt8) (t : List UInt8) (hk : 0 < k) (h : (lowB c.toNat || digB c.toNat || (decide (q = 2) && upB c.toNat)) = false) : shapeS k q (c :: t) = 0 := by
  simp only [shapeS, restN_cons, h]
  rw [if_neg (by omega), if_neg (by simp)]
theorem shapeS_end (k : Nat) (q : Int) (hk : 0 < k) : shapeS k q [] = q := by simp [shapeS, restN, Nat.ne_of_gt hk]
theorem no_up_of_high {c : Nat} (h : 128 ≤ c) : lowB c = false ∧ upB c = false ∧ digB c = false := by
  unfold lowB upB digB
  simp
  omega

/-- Below n, all. -/
def allUp (n : Nat) (p : Nat → Bool) : Bool := (List.range n).all p
theorem allUp_no {n : Nat} {p : Nat → Bool} {k : Nat} (hk : k < n) (h : p k = false) : allUp n p = false := by
  unfold allUp
  rw [List.all_eq_false]
  exact ⟨k, List.mem_range.2 hk, by simp [h]⟩
theorem allUp_yes {n : Nat} {p : Nat → Bool} (h : ∀ k, k < n → p k = true) : allUp n p = true := by
  unfold allUp
  rw [List.all_eq_true]
  exact fun k hk => h k (List.mem_range.1 hk)
theorem allUp_iff {n : Nat} {p : Nat → Bool} : allUp n p = true ↔ ∀ k, k < n → p k = true := by
  unfold allUp
  rw [List.all_eq_true]
  exact ⟨fun h k hk => h k (List.mem_range.2 hk), fun h k hk => h k (List.mem_range.1 hk)⟩
theorem upTo_step {p : Nat → Bool} {k : Nat} (h : ∀ j, j < k → p j = true) (hk : p k = true) : ∀ j, j < k + 1 → p j = true := by
  intro j hj
  by_cases e : j = k
  · rw [e]; exact hk
  · exact h j (by omega)
/-- A list of names: at place j a name, above the one ahead. -/
def riseAt (l : List (List UInt8)) (j : Nat) : Bool := fineN (l.getD j []) && (decide (j = 0) || Op.bytesLess (l.getD (j - 1) []) (l.getD j []))
def risingN (l : List (List UInt8)) : Bool := allUp l.length (riseAt l)
end Go.Proofs.Ytkeeknlfommieaa.PF
