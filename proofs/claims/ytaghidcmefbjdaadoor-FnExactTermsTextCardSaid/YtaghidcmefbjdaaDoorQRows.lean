/- Reading a list of lists of whole numbers; sums; no condition. -/
import Derived.Test.YtaghidcmefbjdaaDoorF0
import Derived.Test.YtaghidcmefbjdaaDoorQBase
import Derived.Test.YtaghidcmefbjdaaDoorQOnce
set_option linter.unusedVariables false
set_option linter.unusedSimpArgs false
namespace Go.Proofs.YtaghidcmefbjdaaDoor.Q
open Go.RowKit Go.Proofs.YtaghidcmefbjdaaDoor.F Go.Proofs.YtaghidcmefbjdaaDoorW.PrintWords Go.Proofs.YtaghidcmefbjdaaDoorW.PrintLast Go.Proofs.YtaghidcmefbjdaaDoorW.PrintMore
theorem rows_nat (l : List (List Int)) (i : Nat) : rd_L1 l (i : Int) = l.getD i [] := by unfold rd_L1; simp
theorem rows_eq (l : List (List Int)) (i : Nat) (h : i < l.length) : rd_L1 l (i : Int) = l[i] := by rw [rows_nat]; simp [h]
theorem drop_rows (l : List (List Int)) (i : Nat) (h : i < l.length) : l.drop i = rd_L1 l (i : Int) :: l.drop (i + 1) := by
  rw [rows_eq l i h]; exact List.drop_eq_getElem_cons h
theorem take_rows (l : List (List Int)) (i : Nat) (h : i < l.length) : l.take (i + 1) = l.take i ++ [rd_L1 l (i : Int)] := by
  rw [rows_eq l i h]; exact List.take_succ_eq_append_getElem h
theorem rows_mem (l : List (List Int)) (i : Nat) (h : i < l.length) : rd_L1 l (i : Int) ∈ l := by rw [rows_eq l i h]; exact List.getElem_mem h
def isum : List Int → Int
  | [] => 0
  | x :: l => x + isum l
def msum : List (List Int) → Int
  | [] => 0
  | r :: m => isum r + msum m
/-- how many numbers a list of lists holds -/
def bulk : List (List Int) → Nat
  | [] => 0
  | r :: m => r.length + bulk m
theorem isum_nonneg {l : List Int} (h : ∀ x ∈ l, 0 ≤ x) : 0 ≤ isum l := by
  induction l with
  | nil => exact Int.le_refl _
  | cons x l ih =>
    have h1 := h x (by simp)
    have h2 := ih (fun y hy => h y (by simp [hy]))
    unfold isum; omega
theorem isum_le {l : List Int} {b : Nat} (h : ∀ x ∈ l, x ≤ (b : Int)) : isum l ≤ ((b * l.length : Nat) : Int) := by
  induction l with
  | nil => simp [isum]
  | cons x l ih =>
    have h1 := h x (by simp)
    have h2 := ih (fun y hy => h y (by simp [hy]))
    unfold isum
    rw [List.length_cons, Nat.mul_add]
    omega
theorem isum_append (a b : List Int) : isum (a ++ b) = isum a + isum b := by
  induction a with
  | nil => simp [isum]
  | cons x l ih => simp [isum, ih]; omega
theorem msum_nonneg {m : List (List Int)} (h : ∀ r ∈ m, ∀ x ∈ r, 0 ≤ x) : 0 ≤ msum m := by
  induction m with
  | nil => exact Int.le_refl _
  | cons r m ih =>
    have h1 := isum_nonneg (h r (by simp))
    have h2 := ih (fun y hy => h y (by simp [hy]))
    unfold msum; omega
theorem bulk_mem {m : List (List Int)} {r : List Int} (h : r ∈ m) : r.length ≤ bulk m := by
  induction m with
  | nil => simp at h
  | cons q m ih =>
    unfold bulk
    rcases List.mem_cons.1 h with rfl | h
    · omega
    · have := ih h; omega
end Go.Proofs.YtaghidcmefbjdaaDoor.Q
