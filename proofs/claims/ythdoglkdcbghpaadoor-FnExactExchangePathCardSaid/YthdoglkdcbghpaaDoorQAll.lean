/- Plain Lean: what the printed functions compute, topic by topic; conditions: those that each theorem names. -/
import Derived.Test.YthdoglkdcbghpaaDoorF0
import Derived.Test.YthdoglkdcbghpaaDoorF1
import Derived.Test.YthdoglkdcbghpaaDoorF2
import Derived.Test.YthdoglkdcbghpaaDoorF6
import Derived.Test.YthdoglkdcbghpaaDoorF7
import Derived.Shelf.SlSortCmp.Whole1
import Derived.Test.YthdoglkdcbghpaaDoorF4
import Derived.Test.YthdoglkdcbghpaaDoorF3
import Derived.Test.YthdoglkdcbghpaaDoorShelf
import Derived.Deep.DeepCutAuto
import Derived.Deep.RegionHeld3
import Derived.IntWalk
import Derived.Lib.SliceRun
set_option linter.unusedVariables false
set_option linter.unusedSimpArgs false
namespace Go.Proofs.YthdoglkdcbghpaaDoor.Q
open Go.RowKit Go.Proofs.YthdoglkdcbghpaaDoor.F Go.Proofs.YthdoglkdcbghpaaDoorW.PrintWords Go.Proofs.YthdoglkdcbghpaaDoorW.PrintLast Go.Proofs.YthdoglkdcbghpaaDoorW.PrintMore
section
variable {α β : Type} {r : α}
theorem ev_pos {c : Prop} [Decidable c] {A B : Nat → Option α} (h : c) (hA : Ev A r) : Ev (fun k => if c then A k else B k) r := by
  simp only [if_pos h]; exact hA
theorem ev_neg {c : Prop} [Decidable c] {A B : Nat → Option α} (h : ¬ c) (hB : Ev B r) : Ev (fun k => if c then A k else B k) r := by
  simp only [if_neg h]; exact hB
theorem ev_ite {c : Prop} [Decidable c] {A B : Nat → Option α} (hA : c → Ev A r) (hB : ¬ c → Ev B r) : Ev (fun k => if c then A k else B k) r := by
  by_cases h : c
  · exact ev_pos h (hA h)
  · exact ev_neg h (hB h)
theorem ev_bindc {o : Option β} {b : β} {f : Nat → β → Option α} (h : o = some b) (hf : Ev (fun k => f k b) r) : Ev (fun k => o.bind (f k)) r := by
  subst h; exact hf
theorem ev_val {a : α} (h : a = r) : Ev (fun _ => some a) r := by subst h; exact ⟨0, fun _ _ => rfl⟩
theorem ev_eq {g : Nat → Option α} {a : α} (h : Ev g a) (e : a = r) : Ev g r := e ▸ h
theorem ev_unique {g : Nat → Option α} {a b : α} (h : Ev g a) (h' : Ev g b) : a = b := by
  obtain ⟨K, h⟩ := h
  obtain ⟨K', h'⟩ := h'
  have e := (h (max K K') (by omega)).symm.trans (h' (max K K') (by omega))
  exact Option.some.inj e
end
theorem wrap_nat {n : Nat} (h : n ≤ 9223372036854775807) : wrap64 (n : Int) = n := by unfold wrap64; omega
theorem wrap_succ {n : Nat} (h : n < 9223372036854775807) : wrap64 ((n : Int) + 1) = ((n + 1 : Nat) : Int) := by unfold wrap64; omega
theorem wrap_id {i : Int} (h0 : -9223372036854775808 ≤ i) (h : i ≤ 9223372036854775807) : wrap64 i = i := by unfold wrap64; omega
theorem rd_nat (l : List Int) (i : Nat) : rd l (i : Int) = l.getD i 0 := by unfold rd; simp
theorem rd_eq (l : List Int) (i : Nat) (h : i < l.length) : rd l (i : Int) = l[i] := by rw [rd_nat]; simp [h]
theorem drop_rd (l : List Int) (i : Nat) (h : i < l.length) : l.drop i = rd l (i : Int) :: l.drop (i + 1) := by
  rw [rd_eq l i h]; exact List.drop_eq_getElem_cons h
theorem take_rd (l : List Int) (i : Nat) (h : i < l.length) : l.take (i + 1) = l.take i ++ [rd l (i : Int)] := by
  rw [rd_eq l i h]; exact List.take_succ_eq_append_getElem h
theorem rd_mem (l : List Int) (i : Nat) (h : i < l.length) : rd l (i : Int) ∈ l := by rw [rd_eq l i h]; exact List.getElem_mem h
/-- Downward: what holds at n, and is handed down, holds at each i up to n. -/
theorem downTo {P : Nat → Prop} (n : Nat) (h0 : P n) (hs : ∀ i, i < n → P (i + 1) → P i) : ∀ i, i ≤ n → P i := by
  intro i hi
  obtain ⟨d, rfl⟩ : ∃ d, n = i + d := ⟨n - i, by omega⟩
  clear hi
  induction d generalizing i with
  | zero => simpa using h0
  | succ d ih => exact hs i (by omega) (ih (i + 1) (by rwa [show i + 1 + d = i + (d + 1) by omega]) (fun j hj => hs j (by omega)))
theorem rd_set (l : List Int) (i j : Nat) (v : Int) (h : i < l.length) : rd (l.set i v) (j : Int) = if i = j then v else rd l (j : Int) := by
  rw [rd_nat, rd_nat, List.getD_eq_getElem?_getD, List.getElem?_set]
  by_cases e : i = j
  · subst e; rw [if_pos rfl, if_pos h, if_pos rfl]; rfl
  · rw [if_neg e, if_neg e, List.getD_eq_getElem?_getD]
theorem rd_reverse (l : List Int) (i : Nat) (h : i < l.length) : rd l.reverse (i : Int) = rd l ((l.length - 1 - i : Nat) : Int) := by
  rw [rd_eq _ i (by simpa using h), rd_eq _ (l.length - 1 - i) (by omega)]
  simp [List.getElem_reverse]
end Go.Proofs.YthdoglkdcbghpaaDoor.Q

set_option linter.unusedVariables false
set_option linter.unusedSimpArgs false
namespace Go.Proofs.YthdoglkdcbghpaaDoor.Q
open Go.RowKit Go.Proofs.YthdoglkdcbghpaaDoor.F Go.Proofs.YthdoglkdcbghpaaDoorW.PrintWords Go.Proofs.YthdoglkdcbghpaaDoorW.PrintLast Go.Proofs.YthdoglkdcbghpaaDoorW.PrintMore
/-- how often the numbers 1 to n occur -/
def sumCount (l : List Int) : Nat → Nat
  | 0 => 0
  | n + 1 => sumCount l n + l.countP (fun x => decide (x = ((n + 1 : Nat) : Int)))
theorem countP_split (l : List Int) (p q r : Int → Bool) (h : ∀ x ∈ l, (if r x then 1 else 0) = (if p x then 1 else 0) + (if q x then (1 : Nat) else 0)) : l.countP r = l.countP p + l.countP q := by
  induction l with
  | nil => rfl
  | cons x l ih =>
    have h1 := h x (by simp)
    have h2 := ih (fun y hy => h y (by simp [hy]))
    simp only [List.countP_cons]
    omega
theorem sumCount_eq (l : List Int) (n : Nat) : sumCount l n = l.countP (fun x => decide (1 ≤ x ∧ x ≤ (n : Int))) := by
  induction n with
  | zero =>
    rw [sumCount]; symm
    rw [List.countP_eq_zero]
    intro x _; simp; omega
  | succ n ih =>
    rw [sumCount, ih]; symm
    apply countP_split
    intro x _
    by_cases h1 : 1 ≤ x ∧ x ≤ (n : Int)
    · have : ¬ x = ((n + 1 : Nat) : Int) := by omega
      have h3 : 1 ≤ x ∧ x ≤ ((n + 1 : Nat) : Int) := by omega
      simp only [decide_eq_true h1, decide_eq_true h3, decide_eq_false this]; rfl
    · by_cases h2 : x = ((n + 1 : Nat) : Int)
      · have h3 : 1 ≤ x ∧ x ≤ ((n + 1 : Nat) : Int) := by omega
        simp only [decide_eq_false h1, decide_eq_true h3, decide_eq_true h2]; rfl
      · have h3 : ¬ (1 ≤ x ∧ x ≤ ((n + 1 : Nat) : Int)) := by omega
        simp only [decide_eq_false h1, decide_eq_false h3, decide_eq_false h2]; rfl
theorem countP_pos_of_mem {l : List Int} {v : Int} (h : v ∈ l) : 1 ≤ l.countP (fun x => decide (x = v)) := by
  have : 0 < l.countP (fun x => decide (x = v)) := List.countP_pos_iff.2 ⟨v, h, by simp⟩
  omega
theorem mem_of_countP {l : List Int} {v : Int} (h : 1 ≤ l.countP (fun x => decide (x = v))) : v ∈ l := by
  obtain ⟨x, hx, he⟩ := List.countP_pos_iff.1 (show 0 < l.countP (fun x => decide (x = v)) by omega)
  rw [decide_eq_true_eq] at he
  exact he ▸ hx
theorem nodup_count {l : List Int} (h : l.Nodup) (v : Int) : l.countP (fun x => decide (x = v)) ≤ 1 := by
  have := List.nodup_iff_count.1 h v
  rw [List.count] at this
  refine Nat.le_trans (Nat.le_of_eq ?_) this
  apply List.countP_congr
  intro x _; simp
theorem nodup_of_count {l : List Int} (h : ∀ v, l.countP (fun x => decide (x = v)) ≤ 1) : l.Nodup := by
  rw [List.nodup_iff_count]
  intro v
  rw [List.count]
  refine Nat.le_trans (Nat.le_of_eq ?_) (h v)
  apply List.countP_congr
  intro x _; simp
theorem sumCount_ge {l : List Int} (n : Nat) (h : ∀ v : Nat, 1 ≤ v → v ≤ n → (v : Int) ∈ l) : n ≤ sumCount l n := by
  induction n with
  | zero => omega
  | succ n ih =>
    have h1 := ih (fun v a b => h v a (by omega))
    have h2 := countP_pos_of_mem (h (n + 1) (by omega) (by omega))
    rw [sumCount]; omega
theorem sumCount_le {l : List Int} (hd : l.Nodup) (n : Nat) : sumCount l n ≤ n := by
  induction n with
  | zero => simp [sumCount]
  | succ n ih =>
    have := nodup_count hd ((n + 1 : Nat) : Int)
    rw [sumCount]; omega
theorem sumCount_tight {l : List Int} (n : Nat) (hle : sumCount l n ≤ n) (h : ∀ v : Nat, 1 ≤ v → v ≤ n → (v : Int) ∈ l) : ∀ v : Nat, 1 ≤ v → v ≤ n → l.countP (fun x => decide (x = (v : Int))) = 1 := by
  induction n with
  | zero => intro v a b; omega
  | succ n ih =>
    have h1 := sumCount_ge n (fun v a b => h v a (by omega))
    have h2 := countP_pos_of_mem (h (n + 1) (by omega) (by omega))
    rw [sumCount] at hle
    intro v a b
    by_cases e : v = n + 1
    · subst e; omega
    · exact ih (by omega) (fun v a b => h v a (by omega)) v a (by omega)
theorem sumCount_full {l : List Int} (hd : l.Nodup) (n : Nat) (hge : n ≤ sumCount l n) : ∀ v : Nat, 1 ≤ v → v ≤ n → (v : Int) ∈ l := by
  induction n with
  | zero => intro v a b; omega
  | succ n ih =>
    have h1 := sumCount_le hd n
    have h2 := nodup_count hd ((n + 1 : Nat) : Int)
    rw [sumCount] at hge
    intro v a b
    by_cases e : v = n + 1
    · subst e; exact mem_of_countP (by omega)
    · exact ih (by omega) v a (by omega)
/-- Each number from 1 to the length occurs: just where none occurs twice and none is greater. -/
theorem once_iff {l : List Int} (hp : ∀ x ∈ l, 1 ≤ x) : (∀ v : Nat, 1 ≤ v → v ≤ l.length → (v : Int) ∈ l) ↔ (l.Nodup ∧ ∀ x ∈ l, x ≤ (l.length : Int)) := by
  constructor
  · intro h
    have h1 := sumCount_ge l.length h
    have h2 : sumCount l l.length ≤ l.length := by rw [sumCount_eq]; exact List.countP_le_length
    have h3 : l.countP (fun x => decide (1 ≤ x ∧ x ≤ (l.length : Int))) = l.length := by rw [← sumCount_eq]; omega
    have h4 : ∀ x ∈ l, x ≤ (l.length : Int) := by
      intro x hx
      have := List.countP_eq_length.1 h3 x hx
      simp at this; exact this.2
    refine ⟨nodup_of_count (fun v => ?_), h4⟩
    by_cases hv : v ∈ l
    · have a := hp v hv
      have b := h4 v hv
      obtain ⟨m, rfl⟩ : ∃ m : Nat, v = (m : Int) := ⟨v.toNat, by omega⟩
      exact Nat.le_of_eq (sumCount_tight l.length h2 h m (by omega) (by omega))
    · rw [Nat.le_one_iff_eq_zero_or_eq_one]; left
      rw [List.countP_eq_zero]
      intro x hx he
      rw [decide_eq_true_eq] at he
      exact hv (he ▸ hx)
  · rintro ⟨hd, hle⟩
    refine sumCount_full hd l.length ?_
    rw [sumCount_eq, List.countP_eq_length.2]
    · exact Nat.le_refl _
    · intro x hx; rw [decide_eq_true_eq]; exact ⟨hp x hx, hle x hx⟩
/-- how many of the first j indices stand ahead of index i: by a smaller number, or by an equal one at a smaller index -/
def placeTo (l : List Int) (i : Nat) : Nat → Nat
  | 0 => 0
  | j + 1 => placeTo l i j + (if rd l (j : Int) < rd l (i : Int) ∨ (rd l (j : Int) = rd l (i : Int) ∧ j < i) then 1 else 0)
def placeOf (l : List Int) (i : Nat) : Int := ((1 + placeTo l i l.length : Nat) : Int)
/-- the places of a list's numbers -/
def places (l : List Int) : List Int := (List.range l.length).map (placeOf l)
theorem placeTo_le (l : List Int) (i : Nat) : ∀ j, placeTo l i j + (if i < j then 1 else 0) ≤ j := by
  intro j
  induction j with
  | zero => simp [placeTo]
  | succ j ih =>
    rw [placeTo]
    by_cases e : j = i
    · subst e
      have : ¬ (rd l (j : Int) < rd l (j : Int) ∨ (rd l (j : Int) = rd l (j : Int) ∧ j < j)) := by omega
      rw [if_neg this]
      rw [if_neg (by omega)] at ih
      rw [if_pos (by omega)]; omega
    · by_cases h2 : i < j
      · rw [if_pos h2] at ih
        rw [if_pos (show i < j + 1 by omega)]
        split <;> omega
      · rw [if_neg h2] at ih
        rw [if_neg (show ¬ i < j + 1 by omega)]
        split <;> omega
theorem placeTo_lt {l : List Int} {i i' : Nat} (h : rd l (i : Int) < rd l (i' : Int) ∨ (rd l (i : Int) = rd l (i' : Int) ∧ i < i')) : ∀ j, placeTo l i j + (if i < j then 1 else 0) ≤ placeTo l i' j := by
  intro j
  induction j with
  | zero => simp [placeTo]
  | succ j ih =>
    rw [placeTo, placeTo]
    by_cases e : j = i
    · subst e
      have : ¬ (rd l (j : Int) < rd l (j : Int) ∨ (rd l (j : Int) = rd l (j : Int) ∧ j < j)) := by omega
      rw [if_neg this, if_pos h]
      rw [if_neg (by omega)] at ih
      rw [if_pos (by omega)]; omega
    · have hs : (if i < j + 1 then 1 else 0) = (if i < j then 1 else 0) := by
        by_cases h2 : i < j
        · rw [if_pos h2, if_pos (by omega)]
        · rw [if_neg h2, if_neg (by omega)]
      rw [hs]
      generalize (if i < j then 1 else 0) = q at ih ⊢
      by_cases hc : rd l (j : Int) < rd l (i : Int) ∨ (rd l (j : Int) = rd l (i : Int) ∧ j < i)
      · have hc' : rd l (j : Int) < rd l (i' : Int) ∨ (rd l (j : Int) = rd l (i' : Int) ∧ j < i') := by omega
        rw [if_pos hc, if_pos hc']; omega
      · rw [if_neg hc]; split <;> omega
theorem places_length (l : List Int) : (places l).length = l.length := by simp [places]
theorem places_get (l : List Int) (i : Nat) (h : i < l.length) : rd (places l) (i : Int) = placeOf l i := by
  rw [rd_eq _ i (by rw [places_length]; exact h)]
  simp [places]
theorem placeOf_bd (l : List Int) (i : Nat) (h : i < l.length) : 1 ≤ placeOf l i ∧ placeOf l i ≤ (l.length : Int) := by
  have := placeTo_le l i l.length
  rw [if_pos h] at this
  unfold placeOf; omega
theorem mem_rd {l : List Int} {x : Int} (h : x ∈ l) : ∃ i, i < l.length ∧ rd l (i : Int) = x := by
  obtain ⟨i, hi, he⟩ := List.getElem_of_mem h
  exact ⟨i, hi, by rw [rd_eq l i hi]; exact he⟩
theorem ext_rd {a b : List Int} (hl : a.length = b.length) (h : ∀ i, i < a.length → rd a (i : Int) = rd b (i : Int)) : a = b := by
  apply List.ext_getElem hl
  intro i h1 h2
  rw [← rd_eq a i h1, ← rd_eq b i h2]
  exact h i h1
theorem nodup_rd {l : List Int} (h : ∀ i j, i < j → j < l.length → rd l (i : Int) ≠ rd l (j : Int)) : l.Nodup := by
  rw [List.nodup_iff_pairwise_ne, List.pairwise_iff_getElem]
  intro i j hi hj hij
  rw [← rd_eq l i hi, ← rd_eq l j hj]
  exact h i j hij hj
theorem rd_nodup {l : List Int} (h : l.Nodup) (i j : Nat) (hij : i < j) (hj : j < l.length) : rd l (i : Int) ≠ rd l (j : Int) := by
  rw [List.nodup_iff_pairwise_ne, List.pairwise_iff_getElem] at h
  rw [rd_eq l i (by omega), rd_eq l j hj]
  exact h i j (by omega) hj hij
theorem placeTo_nodup {l : List Int} (hd : l.Nodup) (i : Nat) (hi : i < l.length) : ∀ j, j ≤ l.length → placeTo l i j = (l.take j).countP (fun x => decide (x < rd l (i : Int))) := by
  intro j
  induction j with
  | zero => intro _; simp [placeTo]
  | succ j ih =>
    intro hj
    rw [placeTo, ih (by omega), take_rd l j (by omega), List.countP_append]
    congr 1
    by_cases hc : rd l (j : Int) < rd l (i : Int)
    · rw [if_pos (.inl hc)]; simp [hc]
    · rw [if_neg]
      · simp [hc]
      · rintro (h | ⟨h, hlt⟩)
        · exact hc h
        · exact rd_nodup hd j i hlt hi h
/-- A list whose numbers are 1 and more is the list of its places just where each number from 1 to its length occurs. -/
theorem places_iff {l : List Int} (hp : ∀ x ∈ l, 1 ≤ x) : places l = l ↔ ∀ v : Nat, 1 ≤ v → v ≤ l.length → (v : Int) ∈ l := by
  rw [once_iff hp]
  constructor
  · intro h
    have hg : ∀ i, i < l.length → rd l (i : Int) = placeOf l i := fun i hi => by rw [← places_get l i hi, h]
    refine ⟨nodup_rd (fun i j hij hj he => ?_), fun x hx => ?_⟩
    · have := placeTo_lt (l := l) (i := i) (i' := j) (.inr ⟨he, hij⟩) l.length
      rw [if_pos (by omega)] at this
      rw [hg i (by omega), hg j hj] at he
      unfold placeOf at he; omega
    · obtain ⟨i, hi, rfl⟩ := mem_rd hx
      rw [hg i hi]
      exact (placeOf_bd l i hi).2
  · rintro ⟨hd, hle⟩
    have hall := (once_iff hp).2 ⟨hd, hle⟩
    refine ext_rd (places_length l) (fun i hi => ?_)
    rw [places_length] at hi
    rw [places_get l i hi]
    have hm := rd_mem l i hi
    have h1 := hp _ hm
    have h2 := hle _ hm
    unfold placeOf
    rw [placeTo_nodup hd i hi l.length (Nat.le_refl _), List.take_length]
    obtain ⟨v, hv⟩ : ∃ v : Nat, rd l (i : Int) = ((v + 1 : Nat) : Int) := ⟨(rd l (i : Int) - 1).toNat, by omega⟩
    rw [hv]
    have e : l.countP (fun x => decide (x < ((v + 1 : Nat) : Int))) = sumCount l v := by
      rw [sumCount_eq]
      apply List.countP_congr
      intro x hx
      have := hp x hx
      simp; omega
    have h3 : sumCount l v = v := by
      have a := sumCount_le hd v
      have b := sumCount_ge (l := l) v (fun u a b => hall u a (by omega))
      omega
    rw [e, h3]; omega
end Go.Proofs.YthdoglkdcbghpaaDoor.Q

set_option linter.unusedVariables false
set_option linter.unusedSimpArgs false
namespace Go.Proofs.YthdoglkdcbghpaaDoor.Q
open Go.RowKit Go.Proofs.YthdoglkdcbghpaaDoor.F Go.Proofs.YthdoglkdcbghpaaDoorW.PrintWords Go.Proofs.YthdoglkdcbghpaaDoorW.PrintLast Go.Proofs.YthdoglkdcbghpaaDoorW.PrintMore
theorem rows_nat (l : List (List Int)) (i : Nat) : rd_L1 l (i : Int) = l.getD i [] := by unfold rd_L1; simp
theorem rows_eq (l : List (List Int)) (i : Nat) (h : i < l.length) : rd_L1 l (i : Int) = l[i] := by rw [rows_nat]; simp [h]
theorem drop_rows (l : List (List Int)) (i : Nat) (h : i < l.length) : l.drop i = rd_L1 l (i : Int) :: l.drop (i + 1) := by
  rw [rows_eq l i h]; exact List.drop_eq_getElem_cons h
theorem take_rows (l : List (List Int)) (i : Nat) (h : i < l.length) : l.take (i + 1) = l.take i ++ [rd_L1 l (i : Int)] := by
  rw [rows_eq l i h]; exact List.take_succ_eq_append_getElem h
theorem rows_mem (l : List (List Int)) (i : Nat) (h : i < l.length) : rd_L1 l (i : Int) ∈ l := by rw [rows_eq l i h]; exact List.getElem_mem h
def isum : List Int → Int
  | [] => 0
  | x :: l => x + isum l
def msum : List (List Int) → Int
  | [] => 0
  | r :: m => isum r + msum m
/-- how many numbers a list of lists holds -/
def bulk : List (List Int) → Nat
  | [] => 0
  | r :: m => r.length + bulk m
theorem isum_nonneg {l : List Int} (h : ∀ x ∈ l, 0 ≤ x) : 0 ≤ isum l := by
  induction l with
  | nil => exact Int.le_refl _
  | cons x l ih =>
    have h1 := h x (by simp)
    have h2 := ih (fun y hy => h y (by simp [hy]))
    unfold isum; omega
theorem isum_le {l : List Int} {b : Nat} (h : ∀ x ∈ l, x ≤ (b : Int)) : isum l ≤ ((b * l.length : Nat) : Int) := by
  induction l with
  | nil => simp [isum]
  | cons x l ih =>
    have h1 := h x (by simp)
    have h2 := ih (fun y hy => h y (by simp [hy]))
    unfold isum
    rw [List.length_cons, Nat.mul_add]
    omega
theorem isum_append (a b : List Int) : isum (a ++ b) = isum a + isum b := by
  induction a with
  | nil => simp [isum]
  | cons x l ih => simp [isum, ih]; omega
theorem msum_nonneg {m : List (List Int)} (h : ∀ r ∈ m, ∀ x ∈ r, 0 ≤ x) : 0 ≤ msum m := by
  induction m with
  | nil => exact Int.le_refl _
  | cons r m ih =>
    have h1 := isum_nonneg (h r (by simp))
    have h2 := ih (fun y hy => h y (by simp [hy]))
    unfold msum; omega
theorem bulk_mem {m : List (List Int)} {r : List Int} (h : r ∈ m) : r.length ≤ bulk m := by
  induction m with
  | nil => simp at h
  | cons q m ih =>
    unfold bulk
    rcases List.mem_cons.1 h with rfl | h
    · omega
    · have := ih h; omega
end Go.Proofs.YthdoglkdcbghpaaDoor.Q

set_option linter.unusedVariables false
set_option linter.unusedSimpArgs false
namespace Go.Proofs.YthdoglkdcbghpaaDoor.Q
open Go.RowKit Go.Proofs.YthdoglkdcbghpaaDoor.F Go.Proofs.YthdoglkdcbghpaaDoorW.PrintWords Go.Proofs.YthdoglkdcbghpaaDoorW.PrintLast Go.Proofs.YthdoglkdcbghpaaDoorW.PrintMore
structure Ob where
  ok : Nat → Prop
  P : World → Prop
/-- the object stays while its blocks do -/
def Firm (o : Ob) : Prop := ∀ W W' : World, o.P W → (∀ k, o.ok k → k < W.heap.size → W'.heap[k]? = W.heap[k]?) → o.P W'
structure St (w W : World) (L : List Ob) : Prop where
  below : Below w.heap.size w W
  own : ∀ o ∈ L, (∀ k, o.ok k → w.heap.size ≤ k ∧ k < W.heap.size) ∧ o.P W ∧ Firm o
  apart : L.Pairwise (fun a b => ∀ k, a.ok k → ¬ b.ok k)
def obR {α : Type} (d : Kd α) (t : Nat) (w : World) (ok : Nat → Prop) (v : Value) (xs : List α) : Ob := ⟨ok, fun W => Kd.R d t W w.heap.size ok v xs⟩
def obS {α : Type} (d : Kd α) (t : Nat) (w : World) (ok : Nat → Prop) (v : Value) (xs : List α) : Ob := ⟨ok, fun W => Kd.S d t W w.heap.size ok v xs⟩
section
variable {α β : Type} {d : Kd α} {d' : Kd β} {t t' : Nat} {w W W' : World} {ok ok' okq : Nat → Prop} {v v' : Value} {xs : List α} {ys : List β} {L L' : List Ob} {o o' : Ob}
theorem firmR : Firm (obR d t w ok v xs) := fun _ _ h hm => Kd.R_step h hm
theorem firmS : Firm (obS d t w ok v xs) := fun _ _ h hm => Kd.S_step h hm
theorem St.start (w : World) : St w w [] := ⟨Below.refl _ _, fun _ h => by simp at h, List.Pairwise.nil⟩
theorem St.quiet (h : St w W L) (hb : Below W.heap.size W W') : St w W' L := by
  have hs := h.below.size
  refine ⟨below_then h.below hs hb, fun o ho => ?_, h.apart⟩
  obtain ⟨h1, h2, h3⟩ := h.own o ho
  exact ⟨fun k hk => ⟨(h1 k hk).1, Nat.lt_of_lt_of_le (h1 k hk).2 hb.size⟩, h3 W W' h2 (fun k _ hk => hb.block k hk), h3⟩
theorem St.drawn (h : St w W L) (hd : Drawn0 W W') : St w W' L := h.quiet hd.below
theorem St.add (h : St w W L) (hb : Below W.heap.size W W') (hn : ∀ k, o.ok k → W.heap.size ≤ k ∧ k < W'.heap.size) (hP : o.P W') (hf : Firm o) : St w W' (o :: L) := by
  have hq := h.quiet hb
  have hs := h.below.size
  refine ⟨hq.below, fun p hp => ?_, List.Pairwise.cons (fun p hp k hk hk2 => ?_) hq.apart⟩
  · rcases List.mem_cons.1 hp with rfl | hp
    · exact ⟨fun k hk => ⟨Nat.le_trans hs (hn k hk).1, (hn k hk).2⟩, hP, hf⟩
    · exact hq.own p hp
  · have := (h.own p hp).1 k hk2
    have := hn k hk
    omega
theorem St.addR (h : St w W L) (hb : Below W.heap.size W W') (hr : Kd.R d t W' W.heap.size ok v xs) : ∃ ok1, St w W' (obR d t w ok1 v xs :: L) :=
  ⟨_, h.add (o := obR d t w (fun k => W.heap.size ≤ k ∧ k < W'.heap.size) v xs) hb (fun _ hk => hk) (Kd.R_mono (Kd.R_lower (Kd.R_bound hr) h.below.size) (fun k hk => ⟨hk.2.1, hk.2.2.1⟩)) firmR⟩
theorem St.addS (h : St w W L) (hb : Below W.heap.size W W') (hr : Kd.S d t W' W.heap.size ok v xs) : ∃ ok1, St w W' (obS d t w ok1 v xs :: L) :=
  ⟨_, h.add (o := obS d t w (fun k => W.heap.size ≤ k ∧ k < W'.heap.size) v xs) hb (fun _ hk => hk) (Kd.S_mono (Kd.S_lower (Kd.S_bound hr) h.below.size) (fun k hk => ⟨hk.2.1, hk.2.2.1⟩)) firmS⟩
/-- two made at once, apart -/
theorem St.add2 (h : St w W L) (hb : Below W.heap.size W W') (hn : ∀ k, o.ok k → W.heap.size ≤ k ∧ k < W'.heap.size) (hP : o.P W') (hf : Firm o) (hn' : ∀ k, o'.ok k → W.heap.size ≤ k ∧ k < W'.heap.size) (hP' : o'.P W') (hf' : Firm o')
    (ha : ∀ k, o.ok k → ¬ o'.ok k) : St w W' (o :: o' :: L) := by
  have h1 := h.add hb hn' hP' hf'
  have hs := h.below.size
  refine ⟨h1.below, fun p hp => ?_, List.Pairwise.cons (fun p hp k hk hk2 => ?_) h1.apart⟩
  · rcases List.mem_cons.1 hp with rfl | hp
    · exact ⟨fun k hk => ⟨Nat.le_trans hs (hn k hk).1, (hn k hk).2⟩, hP, hf⟩
    · exact h1.own p hp
  · rcases List.mem_cons.1 hp with rfl | hp
    · exact ha k hk hk2
    · have := (h.own p hp).1 k hk2
      have := hn k hk
      omega
theorem St.addRS (hE : d.E = []) (h : St w W L) (hb : Below W.heap.size W W') (hr : Kd.R d t W' W.heap.size (fun _ => True) v xs) (hr' : Kd.S d' t' W' W.heap.size (fun k => some k ≠ v.ownBlock) v' ys) : ∃ ok1 ok2, St w W' (obR d t w ok1 v xs :: obS d' t' w ok2 v' ys :: L) := by
  have hs := h.below.size
  refine ⟨_, _, h.add2 (o := obR d t w (fun k => some k = v.ownBlock ∧ W.heap.size ≤ k ∧ k < W'.heap.size) v xs) (o' := obS d' t' w (fun k => some k ≠ v.ownBlock ∧ W.heap.size ≤ k ∧ k < W'.heap.size) v' ys) hb (fun _ hk => hk.2) ?_ firmR (fun _ hk => hk.2) ?_ firmS (fun _ hk hk2 => hk2.1 hk.1)⟩
  · exact Kd.R_mono (Kd.R_lower (Kd.R_bound (Kd.R_tight hE hr)) hs) (fun k hk => ⟨hk.1, hk.2.1, hk.2.2.1⟩)
  · exact Kd.S_mono (Kd.S_lower (Kd.S_bound hr') hs) (fun k hk => ⟨hk.1, hk.2.1, hk.2.2.1⟩)
theorem St.get (h : St w W L) (i : Nat) (hi : L[i]? = some o) : o.P W := (h.own o (List.mem_of_getElem? hi)).2.1
theorem St.mark (h : St w W L) (i : Nat) (hi : L[i]? = some o) (he : o'.ok = o.ok) (hf : Firm o') (hb : Below w.heap.size w W') (hk : Kept W W' o.ok) (hP : o'.P W') (hL : L.set i o' = L') : St w W' L' := by
  subst hL
  have hil := (List.getElem?_eq_some_iff.1 hi).1
  have hio := (List.getElem?_eq_some_iff.1 hi).2
  have hap : ∀ a b, a < L.length → (hb : b < L.length) → a ≠ b → ∀ x y, L[a]? = some x → L[b]? = some y → ∀ k, x.ok k → ¬ y.ok k := by
    intro a b ha hb hne x y hx hy k hxk hyk
    have hp := List.pairwise_iff_getElem.1 h.apart
    rcases Nat.lt_or_gt_of_ne hne with hlt | hlt
    · have := hp a b ha hb hlt k
      rw [List.getElem?_eq_getElem ha] at hx
      rw [List.getElem?_eq_getElem hb] at hy
      injection hx with hx; injection hy with hy
      rw [hx, hy] at this
      exact this hxk hyk
    · have := hp b a hb ha hlt k
      rw [List.getElem?_eq_getElem ha] at hx
      rw [List.getElem?_eq_getElem hb] at hy
      injection hx with hx; injection hy with hy
      rw [hx, hy] at this
      exact this hyk hxk
  refine ⟨hb, fun p hp => ?_, List.pairwise_iff_getElem.2 fun a b ha hb' hlt k => ?_⟩
  · obtain ⟨j, hj, rfl⟩ := List.mem_iff_getElem.1 hp
    rw [List.length_set] at hj
    by_cases hji : i = j
    · subst hji
      rw [List.getElem_set_self]
      have h1 := (h.own o (List.mem_of_getElem? hi)).1
      exact ⟨fun k hk' => ⟨(h1 k (he ▸ hk')).1, Nat.lt_of_lt_of_le (h1 k (he ▸ hk')).2 hk.1⟩, hP, hf⟩
    · rw [List.getElem_set_ne hji]
      obtain ⟨h1, h2, h3⟩ := h.own L[j] (List.getElem_mem hj)
      exact ⟨fun k hk' => ⟨(h1 k hk').1, Nat.lt_of_lt_of_le (h1 k hk').2 hk.1⟩, h3 W W' h2 (fun k hk' hlt => hk.2 k hlt (hap j i hj hil (Ne.symm hji) _ _ (List.getElem?_eq_getElem hj) hi k hk')), h3⟩
  · rw [List.length_set] at ha hb'
    have hx : ∀ j (hj : j < L.length) (hj' : j < (L.set i o').length), ((L.set i o')[j]).ok = (L[j]).ok := by
      intro j hj hj'
      by_cases hji : i = j
      · subst hji; rw [List.getElem_set_self, he, hio]
      · rw [List.getElem_set_ne hji]
    rw [hx a ha, hx b hb']
    exact List.pairwise_iff_getElem.1 h.apart a b ha hb' hlt k
/-- what an object is, read -/
def Reads (d : Kd α) (W : World) (v : Value) (xs : List α) : Prop := ∃ A c, v = .slice A xs.length c ∧ xs.length ≤ c ∧ d.C W A xs.length xs
theorem St.readR (h : St w W L) (i : Nat) (hi : L[i]? = some (obR d t w ok v xs)) : Reads d W v xs := Kd.R_reads (h.get i hi)
theorem St.readS (h : St w W L) (i : Nat) (hi : L[i]? = some (obS d t w ok v xs)) : Reads d W v xs := Kd.R_reads (Kd.S_R (h.get i hi))
/-- what came in, read -/
theorem St.came (h : St w W L) {A : Option Addr} {c : Nat} (hr : d.C w A xs.length xs) (hc : xs.length ≤ c) : Reads d W (.slice A xs.length c) xs := ⟨A, c, rfl, hc, Kd.C_below hr h.below⟩
end
end Go.Proofs.YthdoglkdcbghpaaDoor.Q

set_option linter.unusedVariables false
set_option linter.unusedSimpArgs false
namespace Go.Proofs.YthdoglkdcbghpaaDoor.Q
open Go.RowKit Go.Proofs.YthdoglkdcbghpaaDoor.F Go.Proofs.YthdoglkdcbghpaaDoorW.PrintWords Go.Proofs.YthdoglkdcbghpaaDoorW.PrintLast Go.Proofs.YthdoglkdcbghpaaDoorW.PrintMore
section
variable {w W w1 : World} {L : List Ob}
/-- the first objects are done anew, out of their blocks and new ones -/
theorem St.redo {P P' : List Ob} (h : St w W (P ++ L)) (hK : Kept W w1 (fun k => ∃ p ∈ P, p.ok k)) (hB : Below w.heap.size w w1)
    (hP : ∀ o ∈ P', (∀ k, o.ok k → ((∃ p ∈ P, p.ok k) ∨ W.heap.size ≤ k) ∧ w.heap.size ≤ k ∧ k < w1.heap.size) ∧ o.P w1 ∧ Firm o) (ha : P'.Pairwise (fun a b => ∀ k, a.ok k → ¬ b.ok k)) : St w w1 (P' ++ L) := by
  obtain ⟨_, hL, hPL⟩ := List.pairwise_append.1 h.apart
  refine ⟨hB, fun o ho => ?_, List.pairwise_append.2 ⟨ha, hL, fun a haP b hb k hak hbk => ?_⟩⟩
  · rcases List.mem_append.1 ho with ho | ho
    · obtain ⟨h1, h2, h3⟩ := hP o ho
      exact ⟨fun k hk => (h1 k hk).2, h2, h3⟩
    · obtain ⟨h1, h2, h3⟩ := h.own o (List.mem_append_right _ ho)
      exact ⟨fun k hk => ⟨(h1 k hk).1, Nat.lt_of_lt_of_le (h1 k hk).2 hK.1⟩, h3 W w1 h2 (fun k hk hlt => hK.2 k hlt (fun ⟨p, hp, hpk⟩ => hPL p hp o ho k hpk hk)), h3⟩
  · rcases ((hP a haP).1 k hak).1 with ⟨p, hp, hpk⟩ | hnew
    · exact hPL p hp b hb k hpk hbk
    · have := ((h.own b (List.mem_append_right _ hb)).1 k hbk).2
      omega
theorem St.perm_ {L' : List Ob} (h : St w W L) (hp : List.Perm L L') : St w W L' :=
  ⟨h.below, fun o ho => h.own o (hp.mem_iff.2 ho), (hp.pairwise_iff (fun hab k hb ha => hab k ha hb)).1 h.apart⟩
/-- an object is given up -/
theorem St.drop_ {o : Ob} (h : St w W (o :: L)) : St w W L := ⟨h.below, fun p hp => h.own p (List.mem_cons_of_mem _ hp), (List.pairwise_cons.1 h.apart).2⟩
theorem St.less {L' : List Ob} (h : St w W L) (hs : List.Sublist L' L) : St w W L' := ⟨h.below, fun p hp => h.own p (hs.subset hp), h.apart.sublist hs⟩
theorem St.size_le (h : St w W L) : w.heap.size ≤ W.heap.size := h.below.size
end
/-- in place: one object is done anew, out of its blocks and new ones -/
theorem St.redo1 {w W w1 : World} {L : List Ob} {o o' : Ob} (h : St w W L) (n : Nat) (hn : L[n]? = some o) (hK : Kept W w1 o.ok) (hB : Below w.heap.size w w1)
    (hP : (∀ k, o'.ok k → (o.ok k ∨ W.heap.size ≤ k) ∧ w.heap.size ≤ k ∧ k < w1.heap.size) ∧ o'.P w1 ∧ Firm o') : St w w1 (L.set n o') := by
  obtain ⟨hnl, hno⟩ := List.getElem?_eq_some_iff.1 hn
  have e0 : L = L.take n ++ o :: L.drop (n + 1) := by rw [← hno, ← List.drop_eq_getElem_cons hnl, List.take_append_drop]
  have e1 : List.Perm L ([o] ++ (L.take n ++ L.drop (n + 1))) := by
    have := List.perm_middle (a := o) (l₁ := L.take n) (l₂ := L.drop (n + 1))
    rwa [← e0] at this
  have e2 : List.Perm ([o'] ++ (L.take n ++ L.drop (n + 1))) (L.set n o') := by
    rw [List.set_eq_take_append_cons_drop, if_pos hnl]
    exact (List.perm_middle (a := o') (l₁ := L.take n) (l₂ := L.drop (n + 1))).symm
  refine St.perm_ (St.redo (St.perm_ h e1) (w1 := w1) (P' := [o']) ⟨hK.1, fun k hk hp => hK.2 k hk (fun ho => hp ⟨o, by simp, ho⟩)⟩ hB ?_ (List.pairwise_singleton _ _)) e2
  intro q hq
  obtain rfl := List.mem_singleton.1 hq
  exact ⟨fun k hk => ⟨(hP.1 k hk).1.imp (fun h1 => ⟨o, by simp, h1⟩) id, (hP.1 k hk).2⟩, hP.2⟩
section
variable {ops : Array Oper} {rest : List Oper} {oi : Oper} {a : Act} {Q : Exit → Act → World → Prop} {Kc : Act → World → Prop} {w W : World} {L : List Ob} {α : Type} {d : Kd α} {o0 : Ob} {ok : Nat → Prop} {v : Value} {xs : List α} {p : α} {cs : List Value} {e t : Nat}
theorem St.pushed {w1 : World} {v1 : Value} (h : St w W (o0 :: obS d e w ok v xs :: L)) (hS : Kd.S d e w1 w.heap.size (fun k => (ok k ∨ o0.ok k) ∨ W.heap.size ≤ k) v1 (xs ++ [p])) (hB : Below w.heap.size w w1) (hg : W.grownBy w1 v.ownBlock) : ∃ ok1, St w w1 (obS d e w ok1 v1 (xs ++ [p]) :: L) := by
  have hv := (Kd.S_R (show Kd.S d e W w.heap.size ok v xs from h.get 1 rfl)).1
  refine ⟨fun k => ((ok k ∨ o0.ok k) ∨ W.heap.size ≤ k) ∧ w.heap.size ≤ k ∧ k < w1.heap.size, St.redo (P := [o0, obS d e w ok v xs]) (P' := [obS d e w _ v1 (xs ++ [p])]) h ⟨hg.size, fun k hk hn => hg.block k hk (fun e2 => hn ⟨obS d e w ok v xs, by simp, hv k e2.symm⟩)⟩ hB ?_ (List.pairwise_singleton _ _)⟩
  intro q hq
  obtain rfl := List.mem_singleton.1 hq
  refine ⟨fun k hk => ⟨?_, hk.2⟩, Kd.S_mono (Kd.S_bound hS) (fun k hk => ⟨hk.1, hk.2.1, hk.2.2.1⟩), firmS⟩
  rcases hk.1 with (h1 | h1) | h1
  · exact .inl ⟨obS d e w ok v xs, by simp, h1⟩
  · exact .inl ⟨o0, by simp, h1⟩
  · exact .inr h1
/-- append(v, row): the row is the list's from here on -/
theorem St.push (hgd : oi.guard = none) (s x : Operand) (ho : oi.op = .call { callee := .builtin .append, args := #[s, x], argTypes := #[t, t] }) (ht : (Tryd.prog).underlying t = some (.slice e)) (z : Value) (bytes : Nat) (hinfo : ((Tryd.prog).info? e).map (fun i => (i.zero, i.size, i.bytes)) = some (some z, d.sz, bytes)) (hz : z.cells.size = d.sz) (hs0 : 0 < d.sz) (hb0 : 0 < bytes)
    (h : St w W (o0 :: obS d e w ok v xs :: L)) (hs : a.eval s = v) (hx : a.eval x = .slice (some ⟨W.heap.size, 0, none⟩) 1 1) (hM : d.M W w.heap.size o0.ok p cs) (hl : (xs.length + 1) * bytes ≤ 140737488355328)
    (hk : ∀ v1 w1 ok1, St w w1 (obS d e w ok1 v1 (xs ++ [p]) :: L) → wpList Tryd.prog ops Q rest (a.put oi.dst v1) w1) :
    wpList Tryd.prog ops Q (oi :: rest) a (W.alloc (.cells cs.toArray e)) := by
  have hap : ∀ k, o0.ok k → ¬ ok k := (List.pairwise_cons.1 h.apart).1 (obS d e w ok v xs) (by simp)
  have hS : Kd.S d e W w.heap.size ok v xs := h.get 1 rfl
  have hlt : ∀ k, ok k → k < W.heap.size := fun k hk => ((h.own (obS d e w ok v xs) (by simp)).1 k hk).2
  have hlt0 : ∀ k, o0.ok k → k < W.heap.size := fun k hk => ((h.own o0 (by simp)).1 k hk).2
  refine Kd.S_append d (w0 := w) w.heap.size hgd s x t e z bytes ho ht hinfo hz hs0 hb0 v xs p cs (fun k => (ok k ∨ o0.ok k) ∨ W.heap.size ≤ k) o0.ok hs hx hM (fun k hk => ⟨.inl (.inr hk), fun e2 => hap k hk ((Kd.S_R hS).1 k e2.symm)⟩) (fun k hk => .inr hk) (Kd.S_mono hS (fun k hk => ⟨.inl (.inl hk), fun h2 => hap k h2 hk⟩)) h.below h.below.size hl ?_
  intro v1 w1 hS1 hB hg _
  obtain ⟨ok1, h1⟩ := St.pushed h hS1 hB hg
  exact hk v1 w1 ok1 h1
/-- the same as a step of a region that draws -/
theorem St.push_step (hw : Region.wanted oi (yielded ops a.tmps) = true) (s x : Operand) (ho : oi.op = .call { callee := .builtin .append, args := #[s, x], argTypes := #[t, t] }) (ht : (Tryd.prog).underlying t = some (.slice e)) (z : Value) (bytes : Nat) (hinfo : ((Tryd.prog).info? e).map (fun i => (i.zero, i.size, i.bytes)) = some (some z, d.sz, bytes)) (hz : z.cells.size = d.sz) (hs0 : 0 < d.sz) (hb0 : 0 < bytes)
    (h : St w W (o0 :: obS d e w ok v xs :: L)) (hs : a.eval s = v) (hx : a.eval x = .slice (some ⟨W.heap.size, 0, none⟩) 1 1) (hM : d.M W w.heap.size o0.ok p cs) (hl : (xs.length + 1) * bytes ≤ 140737488355328)
    (hk : ∀ v1 w1 ok1, St w w1 (obS d e w ok1 v1 (xs ++ [p]) :: L) → Kc (a.put oi.dst v1) w1) :
    if Region.wanted oi (yielded ops a.tmps) = true then Oper.wp Tryd.prog oi a (W.alloc (.cells cs.toArray e)) Kc Q else Kc (a.put oi.dst undef) (W.alloc (.cells cs.toArray e)) := by
  have hap : ∀ k, o0.ok k → ¬ ok k := (List.pairwise_cons.1 h.apart).1 (obS d e w ok v xs) (by simp)
  have hS : Kd.S d e W w.heap.size ok v xs := h.get 1 rfl
  refine Kd.S_append_step d (w0 := w) w.heap.size hw s x t e z bytes ho ht hinfo hz hs0 hb0 v xs p cs (fun k => (ok k ∨ o0.ok k) ∨ W.heap.size ≤ k) o0.ok hs hx hM (fun k hk => ⟨.inl (.inr hk), fun e2 => hap k hk ((Kd.S_R hS).1 k e2.symm)⟩) (fun k hk => .inr hk) (Kd.S_mono hS (fun k hk => ⟨.inl (.inl hk), fun h2 => hap k h2 hk⟩)) h.below h.below.size hl ?_
  intro v1 w1 hS1 hB hg _
  obtain ⟨ok1, h1⟩ := St.pushed h hS1 hB hg
  exact hk v1 w1 ok1 h1
/-- append(v, x) of a whole number -/
theorem St.put1 {xs : List Int} {x : Int} {bb c : Nat} (hgd : oi.guard = none) (s y : Operand) (ho : oi.op = .call { callee := .builtin .append, args := #[s, y], argTypes := #[22, 22] })
    (h : St w W L) (n : Nat) (hn : L[n]? = some (obR (Kd.int .i64) 3 w ok v xs)) (hs : a.eval s = v) (hx : a.eval y = .slice (some ⟨W.heap.size, 0, none⟩) 1 1) (hl : (xs.length + 1) * 8 ≤ 140737488355328)
    (hk : ∀ v1 w1 ok1, St w w1 (L.set n (obR (Kd.int .i64) 3 w ok1 v1 (xs ++ [x]))) → wpList Tryd.prog ops Q rest (a.put oi.dst v1) w1) :
    wpList Tryd.prog ops Q (oi :: rest) a (W.alloc (.cells #[.int .i64 x] 3)) := by
  have hR : Kd.R (Kd.int .i64) 3 W w.heap.size ok v xs := h.get n hn
  refine Kd.R_append (Kd.int .i64) (w0 := w) w.heap.size hgd s y 22 3 (.int .i64 0) 8 ho Tryd.underlying22 info3 rfl (by decide) (by omega) v xs x [.int .i64 x] (fun k => ok k ∨ W.heap.size ≤ k) (fun _ => False) hs hx rfl (fun _ h => h.elim) (fun _ h => .inr h) (Kd.R_mono hR (fun k hk => .inl hk)) h.below h.below.size hl ?_
  intro v1 w1 hR1 hB hg _
  exact hk v1 w1 _ (St.redo1 (o' := obR (Kd.int .i64) 3 w (fun k => (ok k ∨ W.heap.size ≤ k) ∧ w.heap.size ≤ k ∧ k < w1.heap.size) v1 (xs ++ [x])) h n hn ⟨hg.size, fun k hk hne => hg.block k hk (fun e2 => hne (hR.1 k e2.symm))⟩ hB ⟨fun k hk => hk, Kd.R_mono (Kd.R_bound hR1) (fun k hk => ⟨hk.1, hk.2.1, hk.2.2.1⟩), firmR⟩)
end
section
variable {w W : World} {L : List Ob} {ok : Nat → Prop} {v : Value} {xs : List (List Int)}
/-- a row of a list, lent: where it lies, and what the list is once the row is a part of itself or a number in it is another -/
theorem St.lendS (h : St w W L) (n : Nat) (hn : L[n]? = some (obS (Kd.slice 3 (Kd.int .i64)) 22 w ok v xs)) (i : Nat) (hi : i < xs.length) {r : List Int} (hr : xs[i] = r) :
    ∃ g c A1 c1, v = .slice (some ⟨g, 0, none⟩) xs.length c ∧ w.heap.size ≤ g ∧ W.cell? ⟨g, i, none⟩ = some (.slice A1 r.length c1) ∧ W.frozen? ⟨g, i, none⟩ = false ∧ r.length ≤ c1 ∧ Reads (Kd.int .i64) W (.slice A1 r.length c1) r ∧
      (0 < r.length → ∃ g1, A1 = some ⟨g1, 0, none⟩ ∧ w.heap.size ≤ g1) ∧
      (∀ j g1, j < r.length → A1 = some ⟨g1, 0, none⟩ → W.cell? ⟨g1, j, none⟩ = some (.int .i64 (rd r (j : Int))) ∧ W.frozen? ⟨g1, j, none⟩ = false ∧ ∀ x : Int, St w (W.setCell ⟨g1, j, none⟩ (.int .i64 x)) (L.set n (obS (Kd.slice 3 (Kd.int .i64)) 22 w ok v (xs.set i (r.set j x))))) ∧
      (∀ m, m ≤ r.length → St w (W.setCell ⟨g, i, none⟩ (.slice A1 m c1)) (L.set n (obS (Kd.slice 3 (Kd.int .i64)) 22 w ok v (xs.set i (r.take m))))) := by
  subst hr
  have hS : Kd.S (Kd.slice 3 (Kd.int .i64)) 22 W w.heap.size ok v xs := h.get n hn
  have hw := (h.own _ (List.mem_of_getElem? hn)).1
  obtain ⟨A, c, rfl⟩ := Kd.R_slice (Kd.S_R hS)
  obtain ⟨g, c', e0, _⟩ := Kd.R_form (Kd.S_R hS) (by omega)
  injection e0 with ea _ _
  subst ea
  have hgok : ok g := (Kd.S_R hS).1 g (by simp [Value.ownBlock])
  have hgb : w.heap.size ≤ g := Kd.R_base (Kd.S_R hS) g (by simp [Value.ownBlock])
  obtain ⟨oki, cs, hcl, hM, hcc, hfr, hoki, hH⟩ := Kd.S_elem hS [] (i : Int) (by omega) (by omega)
  have ex : xs.getD (i : Int).toNat [] = xs[i] := by rw [Int.toNat_natCast, List.getD_eq_getElem?_getD, List.getElem?_eq_getElem hi]; rfl
  rw [ex] at hM
  obtain ⟨u, rfl, hR⟩ := hM
  obtain ⟨A1, c1, hu, hle, hC1⟩ := Kd.R_reads hR
  subst hu
  have ei : (i : Int).toNat * (Kd.slice 3 (Kd.int .i64)).sz + 0 = i := by show (i : Int).toNat * 1 + 0 = i; omega
  have hx1 := hcc 0 _ rfl
  have hf1 := hfr 0
  rw [ei] at hx1 hf1
  refine ⟨g, c, A1, c1, rfl, hgb, hx1, hf1, hle, ⟨A1, c1, rfl, hle, hC1⟩, fun hp => ?_, fun j g1 hj hA => ?_, fun m hm => ?_⟩
  · obtain ⟨g1, c2, e2, gb2, _⟩ := Kd.R_form hR (by omega)
    injection e2 with ea _ _
    exact ⟨g1, ea, gb2⟩
  · subst hA
    obtain ⟨hy, hz⟩ := Kd.R_celln 0 hR (j : Int) (by omega) (by omega)
    rw [Int.toNat_natCast] at hy hz
    refine ⟨hy, hz, fun x => ?_⟩
    have hg1 : oki g1 := hR.1 g1 (by simp [Value.ownBlock])
    have hb1 : w.heap.size ≤ g1 := Kd.R_base hR g1 (by simp [Value.ownBlock])
    have hP := Kd.R_putg hR (j : Int) x
    rw [Int.toNat_natCast] at hP
    have h1 := Kd.H_back (Kd.H_step hH (fun k _ hn' hlt => hP.2.block k hlt (fun e => hn' (by cases e; exact hg1)))) (x' := xs[i].set j x) (okp := oki) ⟨_, rfl, hP.1⟩ (fun _ h => h)
    rw [Int.toNat_natCast] at h1
    refine St.redo1 (o' := obS _ _ w ok _ _) h n hn ⟨hP.2.size, fun k hk hne => hP.2.block k hk (fun e => hne (by cases e; exact (hoki g1 hg1).1))⟩ (below_set h.below hb1) ⟨fun k hk => ⟨.inl hk, (hw k hk).1, Nat.lt_of_lt_of_le (hw k hk).2 hP.2.size⟩, h1, firmS⟩
  · have h2 := Kd.S_seg0 hH (show (0 : Int) ≤ (i : Int) by omega) (show (i : Int) < (xs.length : Int) by omega) (seg := [.slice A1 m c1]) (j := 0) (show 1 ≤ 1 from by decide) (x' := xs[i].take m) (okp := oki) ⟨.slice A1 m c1, rfl, Kd.R_take hR hm⟩ (fun _ h => h)
    rw [ei, Int.toNat_natCast] at h2
    refine St.redo1 (o' := obS _ _ w ok _ _) h n hn ⟨h2.2.size, fun k hk hne => h2.2.block k hk (fun e => hne (by cases e; exact hgok))⟩ (below_set h.below hgb) ⟨fun k hk => ⟨.inl hk, (hw k hk).1, Nat.lt_of_lt_of_le (hw k hk).2 h2.2.size⟩, h2.1, firmS⟩
end
section
variable {ops : Array Oper} {rest : List Oper} {oi : Oper} {a : Act} {Q : Exit → Act → World → Prop} {w W : World} {L : List Ob} {ok : Nat → Prop} {v : Value} {xs : List (List Int)}
/-- append(rows[i], x), ahead of the store into rows[i] -/
theorem St.growRow (hgd : oi.guard = none) (s y : Operand) (ho : oi.op = .call { callee := .builtin .append, args := #[s, y], argTypes := #[22, 22] }) {x : Int}
    (h : St w W L) (n : Nat) (hn : L[n]? = some (obS (Kd.slice 3 (Kd.int .i64)) 22 w ok v xs)) (i : Nat) (hi : i < xs.length) {r : List Int} (hr : xs[i] = r) {g c c1 : Nat} {A1 : Option Addr} (hv : v = .slice (some ⟨g, 0, none⟩) xs.length c) (hc : W.cell? ⟨g, i, none⟩ = some (.slice A1 r.length c1))
    (hs : a.eval s = .slice A1 r.length c1) (hx : a.eval y = .slice (some ⟨W.heap.size, 0, none⟩) 1 1) (hl : (r.length + 1) * 8 ≤ 140737488355328)
    (hk : ∀ A2 c2 w1, w1.cell? ⟨g, i, none⟩ = some (.slice A1 r.length c1) → w1.frozen? ⟨g, i, none⟩ = false → (∃ ok2, St w (w1.setCell ⟨g, i, none⟩ (.slice A2 (r.length + 1) c2)) (L.set n (obS (Kd.slice 3 (Kd.int .i64)) 22 w ok2 v (xs.set i (r ++ [x]))))) → wpList Tryd.prog ops Q rest (a.put oi.dst (.slice A2 (r.length + 1) c2)) w1) :
    wpList Tryd.prog ops Q (oi :: rest) a (W.alloc (.cells #[.int .i64 x] 3)) := by
  subst hv hr
  have hS : Kd.S (Kd.slice 3 (Kd.int .i64)) 22 W w.heap.size ok (.slice (some ⟨g, 0, none⟩) xs.length c) xs := h.get n hn
  have hw := (h.own _ (List.mem_of_getElem? hn)).1
  have hgok : ok g := (Kd.S_R hS).1 g (by simp [Value.ownBlock])
  have hgb : w.heap.size ≤ g := Kd.R_base (Kd.S_R hS) g (by simp [Value.ownBlock])
  obtain ⟨oki, cs, hcl, hM, hcc, hfr, hoki, hH⟩ := Kd.S_elem hS [] (i : Int) (by omega) (by omega)
  have ex : xs.getD (i : Int).toNat [] = xs[i] := by rw [Int.toNat_natCast, List.getD_eq_getElem?_getD, List.getElem?_eq_getElem hi]; rfl
  rw [ex] at hM
  obtain ⟨u, rfl, hR⟩ := hM
  have ei : (i : Int).toNat * (Kd.slice 3 (Kd.int .i64)).sz + 0 = i := by show (i : Int).toNat * 1 + 0 = i; omega
  have hx1 := hcc 0 _ rfl
  rw [ei, hc] at hx1
  injection hx1 with hx1
  subst hx1
  refine Kd.R_append (Kd.int .i64) (w0 := w) w.heap.size hgd s y 22 3 (.int .i64 0) 8 ho Tryd.underlying22 info3 rfl (by decide) (by omega) (.slice A1 xs[i].length c1) xs[i] x [.int .i64 x] (fun k => oki k ∨ W.heap.size ≤ k) (fun _ => False) hs hx rfl (fun _ h => h.elim) (fun _ h => .inr h) (Kd.R_mono hR (fun k hk => .inl hk)) h.below h.below.size hl ?_
  intro v1 w1 hR1 hB hg hat
  obtain ⟨A2, c2, e2⟩ := Kd.R_slice hR1
  subst e2
  have hne : some g ≠ (Value.slice A1 xs[i].length c1).ownBlock := fun e => (hoki g (hR.1 g e.symm)).2 rfl
  have hH1 : Kd.H (Kd.slice 3 (Kd.int .i64)) 22 w1 w.heap.size (fun k => ok k ∨ W.heap.size ≤ k) (.slice (some ⟨g, 0, none⟩) xs.length c) xs (i : Int) (fun k => oki k ∨ (ok k ∨ W.heap.size ≤ k) ∧ W.heap.size ≤ k) [.slice A1 xs[i].length c1] := by
    have := Kd.H_widen (Kd.H_mono hH (fun k hk => (.inl hk : ok k ∨ W.heap.size ≤ k)))
    have h3 := Kd.H_grown this hg (fun k e => .inl (hR.1 k e))
    exact h3
  obtain ⟨hc7, hf7⟩ := Kd.H_at hH1 (show (0 : Int) ≤ (i : Int) by omega) (show (i : Int) < (xs.length : Int) by omega)
  have hx7 := hc7 0 _ rfl
  have hy7 := hf7 0
  rw [ei] at hx7 hy7
  rw [show (xs[i] ++ [x]).length = xs[i].length + 1 by simp] at hR1 ⊢
  refine hk A2 c2 w1 hx7 hy7 ⟨fun k => (ok k ∨ W.heap.size ≤ k) ∧ w.heap.size ≤ k ∧ k < w1.heap.size, ?_⟩
  have h2 := Kd.S_seg0 hH1 (show (0 : Int) ≤ (i : Int) by omega) (show (i : Int) < (xs.length : Int) by omega) (seg := [.slice A2 (xs[i].length + 1) c2]) (j := 0) (show 1 ≤ 1 from by decide) (x' := xs[i] ++ [x]) (okp := fun k => oki k ∨ W.heap.size ≤ k) ⟨.slice A2 (xs[i].length + 1) c2, rfl, hR1⟩ (fun k hk => hk.imp id (fun h => ⟨.inr h, h⟩))
  rw [ei, Int.toNat_natCast] at h2
  have hz := hg.size
  refine St.redo1 (o' := obS _ _ w _ _ _) h n hn ⟨Nat.le_trans hg.size h2.2.size, fun k hk hne => ?_⟩ (below_set hB hgb) ⟨fun k hk => ⟨hk.1, hk.2.1, Nat.lt_of_lt_of_le hk.2.2 h2.2.size⟩, Kd.S_mono (Kd.S_bound h2.1) (fun k hk => ⟨hk.1, hk.2.1, ?_⟩), firmS⟩
  · exact (h2.2.block k (Nat.lt_of_lt_of_le hk hz) (fun e => hne (by cases e; exact hgok))).trans (hg.block k hk (fun e => hne (hoki k (hR.1 k e.symm)).1))
  · have := hk.2.2.1
    have e3 : (w1.setCell ⟨g, i, none⟩ (.slice A2 (xs[i].length + 1) c2)).heap.size = w1.heap.size := by simp [World.setCell]
    have e4 : (w1.setCells g i [.slice A2 (xs[i].length + 1) c2]).heap.size = w1.heap.size := e3
    omega
end
section
variable {ops : Array Oper} {rest : List Oper} {oi : Oper} {a : Act} {Q : Exit → Act → World → Prop} {w W : World} {L : List Ob}
/-- make([]int, z) -/
theorem St.make0 {N : Tmp} (hgd : oi.guard = none) (hd : oi.dst = some N) (x y : Operand) (ho : oi.op = .makeSlice 22 x y) (z : Nat) (hx : a.eval x = .int .i64 (z : Int)) (hy : a.eval y = .int .i64 (z : Int)) (hl : z * 8 ≤ 281474976710656) (h : St w W L)
    (hk : ∀ v1 w1 ok1, St w w1 (obR (Kd.int .i64) 3 w ok1 v1 (List.replicate z 0) :: L) → wpList Tryd.prog ops Q rest (a.put oi.dst v1) w1) : wpList Tryd.prog ops Q (oi :: rest) a W := by
  refine Kd.R_make (Kd.int .i64) (w0 := W) W.heap.size 3 hgd hd 22 x y ho (z : Int) hx hy Tryd.underlying22 (.int .i64 0) 8 info3 rfl (by decide) (by omega) 0 (ok := fun _ => True) (okp := fun _ => True) rfl (fun _ hk => hk) trivial (by omega) (by rw [Int.toNat_natCast]; exact hl) (Below.refl _ _) (Nat.le_refl _) ?_
  intro v1 w1 hR hB hg _
  rw [Int.toNat_natCast] at hR
  obtain ⟨ok1, h1⟩ := h.addR hB hR
  exact hk v1 w1 ok1 h1
/-- a literal of no element -/
theorem St.lit0 {α : Type} (d : Kd α) (e : Nat) {N : Tmp} (hgd : oi.guard = none) (hd : oi.dst = some N) (hrun : (execOp a.eval oi).run Tryd.prog W = .ok (.value (.slice (some ⟨W.heap.size, 0, none⟩) 0 0)) (W.alloc (.cells #[] e))) (h : St w W L)
    (hk : ∀ v1 w1 ok1, St w w1 (obS d e w ok1 v1 [] :: L) → wpList Tryd.prog ops Q rest (a.put oi.dst v1) w1) : wpList Tryd.prog ops Q (oi :: rest) a W := by
  refine Kd.S_lit d (w0 := W) W.heap.size e hgd hd (xs := []) (inner := []) (ok := fun _ => True) (okp := fun _ => False) hrun (Reps.none _ _) (fun _ h => h.elim) trivial (Below.refl _ _) (Nat.le_refl _) (by simp) ?_
  intro v1 w1 hS hB _ _
  obtain ⟨ok1, h1⟩ := h.addS hB hS
  exact hk v1 w1 ok1 h1
end
section
variable {α β : Type} {d : Kd α} {d' : Kd β} {t t' : Nat} {w W W' : World} {v v' : Value} {xs : List α} {ys : List β} {L : List Ob}
/-- two made at once, that lead to nothing -/
theorem St.addRR (hE : d.E = []) (hE' : d'.E = []) (h : St w W L) (hb : Below W.heap.size W W') (hr : Kd.R d t W' W.heap.size (fun k => some k ≠ v'.ownBlock) v xs) (hr' : Kd.R d' t' W' W.heap.size (fun k => some k ≠ v.ownBlock) v' ys) : ∃ ok1 ok2, St w W' (obR d t w ok1 v xs :: obR d' t' w ok2 v' ys :: L) := by
  have hs := h.below.size
  have b1 := Kd.R_bound (Kd.R_tight hE hr)
  have b2 := Kd.R_bound (Kd.R_tight hE' hr')
  refine ⟨_, _, h.add2 (o := obR d t w (fun k => some k = v.ownBlock ∧ W.heap.size ≤ k ∧ k < W'.heap.size) v xs) (o' := obR d' t' w (fun k => some k = v'.ownBlock ∧ W.heap.size ≤ k ∧ k < W'.heap.size) v' ys) hb (fun _ hk => hk.2) ?_ firmR (fun _ hk => hk.2) ?_ firmR (fun k hk hk2 => ?_)⟩
  · exact Kd.R_mono (Kd.R_lower b1 hs) (fun k hk => ⟨hk.1, hk.2.1, hk.2.2.1⟩)
  · exact Kd.R_mono (Kd.R_lower b2 hs) (fun k hk => ⟨hk.1, hk.2.1, hk.2.2.1⟩)
  · exact hr.1 k hk.1.symm hk2.1
end
/-- a literal of elements, as an event -/
theorem lit_event {ops : Array Oper} {rest : List Oper} {oi : Oper} {a : Act} {Q : Exit → Act → World → Prop} {W : World} {N : Tmp} (hgd : oi.guard = none) (_hd : oi.dst = some N) {cs : Array Value} {t n : Nat}
    (hrun : (execOp a.eval oi).run Tryd.prog W = .ok (.value (.slice (some ⟨W.heap.size, 0, none⟩) n n)) (W.alloc (.cells cs t (0, 0))))
    (h : ∀ b, b = W.heap.size → ∀ w1, w1.heap[b]? = some (.cells cs t (0, 0)) → Below W.heap.size W w1 → wpList Tryd.prog ops Q rest (a.put oi.dst (.slice (some ⟨b, 0, none⟩) n n)) w1) : wpList Tryd.prog ops Q (oi :: rest) a W :=
  Kd.event_run hgd hrun (h _ rfl _ (blk_new W _) (below_alloc (Below.refl _ _) _))
/-- s[z:] of whole numbers -/
theorem cut_ints (A : Option Addr) (n c z : Nat) (h : z ≤ n) (W : World) : (Instr.slice 22 (.slice A n c) (some (.int .i64 (z : Int))) none none).run Tryd.prog W = .ok (.slice (if c = z then A else A.map (·.add z)) (n - z) (c - z)) W := by
  obtain ⟨i, hi, hz⟩ := Option.map_eq_some_iff.1 info3
  simp only [Prod.mk.injEq] at hz
  have := cut_from (P := Tryd.prog) 22 3 .i64 Tryd.underlying22 hi 1 hz.2.1 A n c (z : Int) (by omega) (by omega) W
  simpa using this
end Go.Proofs.YthdoglkdcbghpaaDoor.Q

set_option linter.unusedVariables false
set_option linter.unusedSimpArgs false
namespace Go.Proofs.YthdoglkdcbghpaaDoor.Q
open Go.RowKit Go.Proofs.YthdoglkdcbghpaaDoor.F Go.Proofs.YthdoglkdcbghpaaDoorW.PrintWords Go.Proofs.YthdoglkdcbghpaaDoorW.PrintLast Go.Proofs.YthdoglkdcbghpaaDoorW.PrintMore
section
variable {w W W' : World} {L L' : List Ob} {o : Ob}
theorem St.drop (h : St w W (o :: L)) : St w W L := ⟨h.below, fun p hp => h.own p (List.mem_cons_of_mem _ hp), (List.pairwise_cons.1 h.apart).2⟩
/-- a variable in memory -/
def obB (b : Nat) (cs : Array Value) (t : Nat) : Ob := ⟨fun k => k = b, fun W => W.heap[b]? = some (.cells cs t (0, 0))⟩
theorem firmB {b : Nat} {cs : Array Value} {t : Nat} : Firm (obB b cs t) := fun _ _ h hm => (hm b rfl (blk_lt h)).trans h
theorem St.cellB (h : St w W L) {b t : Nat} {cs : Array Value} (i : Nat) (hi : L[i]? = some (obB b cs t)) (j : Nat) {v : Value} (hv : cs[j]? = some v) : W.cell? ⟨b, j, none⟩ = some v := (blk_cell (show W.heap[b]? = some (.cells cs t (0, 0)) from h.get i hi) j).trans hv
theorem St.box (h : St w W L) (cs : Array Value) (t : Nat) : St w (W.alloc (.cells cs t (0, 0))) (obB W.heap.size cs t :: L) := by
  have e1 : (W.alloc (.cells cs t (0, 0))).heap.size = W.heap.size + 1 := by show (W.heap.push _).size = _; exact Array.size_push ..
  refine h.add (o := obB W.heap.size cs t) (below_alloc (Below.refl _ _) _) (fun k hk => ?_) ?_ firmB
  · have h1 : k = W.heap.size := hk
    omega
  · show (W.heap.push _)[W.heap.size]? = _
    exact Array.getElem?_push_size
end
end Go.Proofs.YthdoglkdcbghpaaDoor.Q

set_option linter.unusedVariables false
set_option linter.unusedSimpArgs false
namespace Go.Proofs.YthdoglkdcbghpaaDoor.Q
open Go.RowKit Go.Proofs.YthdoglkdcbghpaaDoor.F Go.Proofs.YthdoglkdcbghpaaDoorW.PrintWords Go.Proofs.YthdoglkdcbghpaaDoorW.PrintLast Go.Proofs.YthdoglkdcbghpaaDoorW.PrintMore
section
variable {w W w1 : World} {L L' : List Ob} {b t : Nat} {cs cs' : Array Value} {x0 x1 : Value} {o o' o'' : Ob}
theorem St.putB (h : St w W L) (i : Nat) (hi : L[i]? = some (obB b cs t)) (j : Nat) (u : Value) (hc : cs.setIfInBounds j u = cs') : St w (W.setCell ⟨b, j, none⟩ u) (L.set i (obB b cs' t)) := by
  have hb : w.heap.size ≤ b := ((h.own _ (List.mem_of_getElem? hi)).1 b rfl).1
  refine h.mark (o' := obB b cs' t) i hi rfl firmB (below_set h.below hb) ⟨by simp [World.setCell], fun k _ hk => ?_⟩ (blk_put (show W.heap[b]? = some (.cells cs t (0, 0)) from h.get i hi) j u hc) rfl
  have hk' : k ≠ b := hk
  exact Below.heap_setCell _ _ _ _ hk'
theorem St.addB (h : St w W L) {W' : World} (hx : W'.heap[b]? = some (.cells cs t (0, 0))) (hb : b = W.heap.size) (hl : Below W.heap.size W W') : St w W' (obB b cs t :: L) :=
  h.add (o := obB b cs t) hl (fun k hk => by have h1 : k = b := hk; have h2 := blk_lt hx; omega) hx firmB
theorem St.heapB (h : St w W L) (i : Nat) (hi : L[i]? = some (obB b cs t)) : W.heap[b]? = some (.cells cs t (0, 0)) := h.get i hi
theorem St.giveRS {α β : Type} {d : Kd α} {d' : Kd β} {t t' : Nat} {ok0 ok1 : Nat → Prop} {v0 v1 : Value} {xs : List α} {ys : List β} (h : St w W L) (i j : Nat) (hij : i < j) (hi : L[i]? = some (obR d t w ok0 v0 xs)) (hj : L[j]? = some (obS d' t' w ok1 v1 ys)) :
    Kd.R d t W w.heap.size (fun _ => True) v0 xs ∧ Kd.S d' t' W w.heap.size (fun k_ => some k_ ≠ (v0 : Value).ownBlock) v1 ys ∧ Below w.heap.size w W := by
  have hR : Kd.R d t W w.heap.size ok0 v0 xs := h.get i hi
  have hS : Kd.S d' t' W w.heap.size ok1 v1 ys := h.get j hj
  refine ⟨Kd.R_mono hR (fun _ _ => trivial), Kd.S_mono hS (fun k hk e => ?_), h.below⟩
  obtain ⟨hil, hi'⟩ := List.getElem?_eq_some_iff.1 hi
  obtain ⟨hjl, hj'⟩ := List.getElem?_eq_some_iff.1 hj
  have hp := List.pairwise_iff_getElem.1 h.apart i j hil hjl hij k
  rw [hi', hj'] at hp
  exact hp (hR.1 k e.symm) hk
theorem St.giveSR {α β : Type} {d : Kd α} {d' : Kd β} {t t' : Nat} {ok0 ok1 : Nat → Prop} {v0 v1 : Value} {xs : List α} {ys : List β} (h : St w W L) (i j : Nat) (hij : j < i) (hi : L[i]? = some (obR d t w ok0 v0 xs)) (hj : L[j]? = some (obS d' t' w ok1 v1 ys)) :
    Kd.R d t W w.heap.size (fun _ => True) v0 xs ∧ Kd.S d' t' W w.heap.size (fun k_ => some k_ ≠ (v0 : Value).ownBlock) v1 ys ∧ Below w.heap.size w W := by
  have hR : Kd.R d t W w.heap.size ok0 v0 xs := h.get i hi
  have hS : Kd.S d' t' W w.heap.size ok1 v1 ys := h.get j hj
  refine ⟨Kd.R_mono hR (fun _ _ => trivial), Kd.S_mono hS (fun k hk e => ?_), h.below⟩
  obtain ⟨hil, hi'⟩ := List.getElem?_eq_some_iff.1 hi
  obtain ⟨hjl, hj'⟩ := List.getElem?_eq_some_iff.1 hj
  have hp := List.pairwise_iff_getElem.1 h.apart j i hjl hil hij k
  rw [hi', hj'] at hp
  exact hp hk (hR.1 k e.symm)
theorem Reads.C {α : Type} {d : Kd α} {A : Option Addr} {c : Nat} {xs : List α} (h : Reads d W (.slice A xs.length c) xs) : xs.length ≤ c ∧ d.C W A xs.length xs := by
  obtain ⟨A', c', e, h1, h2⟩ := h
  cases e
  exact ⟨h1, h2⟩
/-- a literal of two rows, read -/
theorem rows2_C {A1 A2 : Option Addr} {k1 k2 e : Nat} {y1 y2 : List Int} (h1 : Reads (Kd.int .i64) W (.slice A1 y1.length k1) y1) (h2 : Reads (Kd.int .i64) W (.slice A2 y2.length k2) y2) (hb : W.heap[b]? = some (.cells #[.slice A1 y1.length k1, .slice A2 y2.length k2] t (0, 0))) :
    Reads (Kd.slice e (Kd.int .i64)) W (.slice (some ⟨b, 0, none⟩) 2 2) [y1, y2] := by
  refine ⟨_, _, rfl, Nat.le_refl _, rfl, (show 2 ≤ 9223372036854775807 by decide), fun _ => ⟨_, rfl, fun j p hj => ?_⟩⟩
  match j, hj with
  | 0, hj =>
    obtain rfl : y1 = p := by simpa using hj
    refine ⟨[.slice A1 y1.length k1], rfl, ⟨A1, k1, rfl, (Reads.C h1).1, (Reads.C h1).2⟩, fun i u hu => ?_⟩
    match i, hu with
    | 0, hu =>
      obtain rfl : Value.slice A1 y1.length k1 = u := by simpa using hu
      exact (blk_cell hb 0).trans rfl
  | 1, hj =>
    obtain rfl : y2 = p := by simpa using hj
    refine ⟨[.slice A2 y2.length k2], rfl, ⟨A2, k2, rfl, (Reads.C h2).1, (Reads.C h2).2⟩, fun i u hu => ?_⟩
    match i, hu with
    | 0, hu =>
      obtain rfl : Value.slice A2 y2.length k2 = u := by simpa using hu
      exact (blk_cell hb 1).trans rfl
end
end Go.Proofs.YthdoglkdcbghpaaDoor.Q

set_option linter.unusedVariables false
set_option linter.unusedSimpArgs false
namespace Go.Proofs.YthdoglkdcbghpaaDoor.Q
open Go.RowKit Go.Proofs.YthdoglkdcbghpaaDoor.F Go.Proofs.YthdoglkdcbghpaaDoorW.PrintWords Go.Proofs.YthdoglkdcbghpaaDoorW.PrintLast Go.Proofs.YthdoglkdcbghpaaDoorW.PrintMore
/-- a list of rows whose rows ahead of k were taken -/
def obT (t : Nat) (w : World) (ok : Nat → Prop) (g : Nat) (cur : Array Value) (f : Nat → Nat) (k : Nat) (xs : List (List Int)) : Ob :=
  ⟨ok, fun W => ok g ∧ W.heap[g]? = some (.cells cur t (0, 0)) ∧ ∀ (j : Nat) (hj : j < xs.length), k ≤ j → ∃ A c, cur[j]? = some (.slice A xs[j].length c) ∧ Kd.R (Kd.int .i64) 3 W w.heap.size (fun b => ok b ∧ b ≠ g ∧ f b = j) (.slice A xs[j].length c) xs[j]⟩
section
variable {w W : World} {L : List Ob} {ok : Nat → Prop} {v : Value} {xs : List (List Int)} {t g k : Nat} {cur : Array Value} {f : Nat → Nat}
theorem firmT : Firm (obT t w ok g cur f k xs) := fun W W' h hm => by
  obtain ⟨h1, h2, h3⟩ := h
  refine ⟨h1, (hm g h1 (blk_lt h2)).trans h2, fun j hj hk => ?_⟩
  obtain ⟨A, c, h4, h5⟩ := h3 j hj hk
  exact ⟨A, c, h4, Kd.R_step h5 (fun b hb hlt => hm b hb.1 hlt)⟩
theorem St.weakT {o o' : Ob} (h : St w W L) (i : Nat) (hi : L[i]? = some o) (hok : ∀ k, o'.ok k → o.ok k) (hP : o'.P W) (hF : Firm o') : St w W (L.set i o') :=
  h.redo1 i hi (Kept.refl _ _) h.below ⟨fun k hk => ⟨.inl (hok k hk), (h.own o (List.mem_of_getElem? hi)).1 k (hok k hk)⟩, hP, hF⟩
theorem St.openT (h : St w W L) (n : Nat) (hn : L[n]? = some (obS (Kd.slice 3 (Kd.int .i64)) t w ok v xs)) (hp : 0 < xs.length) :
    ∃ g c cur f, v = .slice (some ⟨g, 0, none⟩) xs.length c ∧ St w W (L.set n (obT t w ok g cur f 0 xs)) := by
  obtain ⟨f, h0, inner, ho, hr⟩ : Kd.S (Kd.slice 3 (Kd.int .i64)) t W w.heap.size ok v xs := h.get n hn
  rw [List.length_zipIdx] at ho
  rcases ho.2 with ⟨_, he⟩ | ⟨g, cap, cur, rfl, hg, hh, hnc, hcm, hcs, ht⟩
  · omega
  · have hgok : ok g := h0 g (by simp [Value.ownBlock])
    refine ⟨g, cap, cur, f, rfl, h.weakT n hn (fun _ hk => hk) ⟨hgok, hh, fun j hj _ => ?_⟩ firmT⟩
    have h1 := hr.2 j (xs[j], j) (Kd.zip_at (List.getElem?_eq_getElem hj))
    have hl : inner.length = xs.length := by
      have := hr.1
      rw [List.length_zipIdx] at this
      rw [this]; show xs.length * 1 = _; omega
    obtain ⟨u, e, hR⟩ : ∃ u, (inner.drop (j * 1)).take 1 = [u] ∧ Kd.R (Kd.int .i64) 3 W w.heap.size (fun b => (ok b ∧ some b ≠ (Value.slice (some ⟨g, 0, none⟩) xs.length cap).ownBlock) ∧ f b = j) u xs[j] := h1
    obtain ⟨A, c, rfl⟩ := Kd.R_slice hR
    rw [Nat.mul_one, List.drop_eq_getElem_cons (by omega)] at e
    have e2 : inner[j]'(by omega) = .slice A xs[j].length c := (List.cons.inj (show [inner[j]'(by omega)] = [_] from e)).1
    refine ⟨A, c, ?_, Kd.R_mono hR (fun b hb => ⟨hb.1.1, fun e3 => hb.1.2 (by rw [e3]; simp [Value.ownBlock]), hb.2⟩)⟩
    have ht' : cur.toList.take (xs.length * 1) = inner := ht
    have h5 : inner[j]? = some (.slice A xs[j].length c) := by rw [List.getElem?_eq_getElem (by omega), e2]
    rw [← ht', Nat.mul_one, List.getElem?_take, if_pos hj] at h5
    simpa using h5
theorem St.rowT (h : St w W L) (n : Nat) (hn : L[n]? = some (obT t w ok g cur f k xs)) (j : Nat) (hk : k ≤ j) (hj : j < xs.length) : ∃ A c, cur[j]? = some (.slice A xs[j].length c) ∧ xs[j].length ≤ c := by
  obtain ⟨_, _, h3⟩ := h.get n hn
  obtain ⟨A, c, h4, h5⟩ := h3 j hj hk
  exact ⟨A, c, h4, (Kd.R_reads' h5).2.1⟩
theorem St.cellT (h : St w W L) (n : Nat) (hn : L[n]? = some (obT t w ok g cur f k xs)) {j : Nat} {u : Value} (hc : cur[j]? = some u) : W.cell? ⟨g, j, none⟩ = some u :=
  (blk_cell (show W.heap[g]? = some (.cells cur t (0, 0)) from (h.get n hn).2.1) j).trans hc
theorem St.readT (h : St w W L) (n : Nat) (hn : L[n]? = some (obT t w ok g cur f k xs)) {j c : Nat} {A : Option Addr} (hk : k ≤ j) (hj : j < xs.length) {r : List Int} (hr : xs[j] = r) (hc : cur[j]? = some (.slice A r.length c)) : Reads (Kd.int .i64) W (.slice A r.length c) r := by
  subst hr
  obtain ⟨_, _, h3⟩ := h.get n hn
  obtain ⟨A', c', h4, h5⟩ := h3 j hj hk
  rw [hc] at h4
  injection h4 with h4
  injection h4 with ha _ hcc
  subst ha hcc
  exact Kd.R_reads h5
theorem St.skipT (h : St w W L) (n : Nat) (hn : L[n]? = some (obT t w ok g cur f k xs)) : St w W (L.set n (obT t w ok g cur f (k + 1) xs)) := by
  obtain ⟨h1, h2, h3⟩ := h.get n hn
  exact h.weakT n hn (fun _ hk => hk) ⟨h1, h2, fun j hj hk => h3 j hj (by omega)⟩ firmT
/-- a row is taken: from here on it is an object of its own -/
theorem St.takeT (h : St w W L) (n : Nat) (hn : L[n]? = some (obT t w ok g cur f k xs)) (hk : k < xs.length) {r : List Int} (hr : xs[k] = r) {A : Option Addr} {c : Nat} (hc : cur[k]? = some (.slice A r.length c)) :
    ∃ ok0 ok1, St w W (obR (Kd.int .i64) 3 w ok0 (.slice A r.length c) r :: L.set n (obT t w ok1 g cur f (k + 1) xs)) := by
  subst hr
  obtain ⟨hnl, hno⟩ := List.getElem?_eq_some_iff.1 hn
  obtain ⟨h1, h2, h3⟩ := h.get n hn
  obtain ⟨A', c', h4, h5⟩ := h3 k hk (Nat.le_refl _)
  rw [hc] at h4
  injection h4 with h4
  injection h4 with ha _ hcc
  subst ha hcc
  have hw := (h.own _ (List.mem_of_getElem? hn)).1
  have e0 : L = L.take n ++ obT t w ok g cur f k xs :: L.drop (n + 1) := by rw [← hno, ← List.drop_eq_getElem_cons hnl, List.take_append_drop]
  have e1 : List.Perm L ([obT t w ok g cur f k xs] ++ (L.take n ++ L.drop (n + 1))) := by
    have := List.perm_middle (a := obT t w ok g cur f k xs) (l₁ := L.take n) (l₂ := L.drop (n + 1))
    rwa [← e0] at this
  obtain ⟨o', ho'⟩ : ∃ o, o = obT t w (fun b => ok b ∧ (b = g ∨ k + 1 ≤ f b)) g cur f (k + 1) xs := ⟨_, rfl⟩
  obtain ⟨q, hq⟩ : ∃ o, o = obR (Kd.int .i64) 3 w (fun b => ok b ∧ b ≠ g ∧ f b = k) (.slice A xs[k].length c) xs[k] := ⟨_, rfl⟩
  have e2 : List.Perm ([q, o'] ++ (L.take n ++ L.drop (n + 1))) (q :: L.set n o') := by
    rw [List.set_eq_take_append_cons_drop, if_pos hnl]
    exact List.Perm.cons _ (List.perm_middle (a := o') (l₁ := L.take n) (l₂ := L.drop (n + 1))).symm
  have h6 : St w W (q :: L.set n o') := by
    refine St.perm_ (St.redo (St.perm_ h e1) (w1 := W) (P' := [q, o']) (Kept.refl _ _) h.below ?_ ?_) e2
    · intro p hp
      rcases List.mem_cons.1 hp with rfl | hp
      · subst hq
        exact ⟨fun b hb => ⟨.inl ⟨obT t w ok g cur f k xs, by simp, hb.1⟩, hw b hb.1⟩, h5, firmR⟩
      · obtain rfl := List.mem_singleton.1 hp
        subst ho'
        refine ⟨fun b hb => ⟨.inl ⟨obT t w ok g cur f k xs, by simp, hb.1⟩, hw b hb.1⟩, ⟨⟨h1, .inl rfl⟩, h2, fun j hj hkj => ?_⟩, firmT⟩
        obtain ⟨A'', c'', h7, h8⟩ := h3 j hj (by omega)
        exact ⟨A'', c'', h7, Kd.R_mono h8 (fun b hb => ⟨⟨hb.1, .inr (by rw [hb.2.2]; exact hkj)⟩, hb.2⟩)⟩
    · refine List.Pairwise.cons (fun p hp b hb hb2 => ?_) (List.pairwise_singleton _ _)
      obtain rfl := List.mem_singleton.1 hp
      subst ho' hq
      have hb' : ok b ∧ b ≠ g ∧ f b = k := hb
      have hb2' : ok b ∧ (b = g ∨ k + 1 ≤ f b) := hb2
      rcases hb2'.2 with e | e
      · exact hb'.2.1 e
      · omega
  subst hq ho'
  exact ⟨_, _, h6⟩
end
section
variable {ops : Array Oper} {rest : List Oper} {oi : Oper} {a : Act} {Q : Exit → Act → World → Prop} {w W : World} {L : List Ob} {ok : Nat → Prop} {v : Value} {xs ys : List Int}
/-- a literal of no whole number -/
theorem St.litNil {N : Tmp} (hgd : oi.guard = none) (hd : oi.dst = some N) (hrun : (execOp a.eval oi).run Tryd.prog W = .ok (.value (.slice (some ⟨W.heap.size, 0, none⟩) 0 0)) (W.alloc (.cells #[] 3))) (h : St w W L)
    (hk : ∀ v1 w1 ok1, St w w1 (obR (Kd.int .i64) 3 w ok1 v1 [] :: L) → wpList Tryd.prog ops Q rest (a.put oi.dst v1) w1) : wpList Tryd.prog ops Q (oi :: rest) a W := by
  refine Kd.R_lit (Kd.int .i64) (w0 := W) W.heap.size 3 hgd hd (xs := []) (inner := []) (ok := fun _ => True) (okp := fun _ => False) hrun (Reps.none _ _) (fun _ h => h.elim) trivial (Below.refl _ _) (Nat.le_refl _) (by simp) ?_
  intro v1 w1 hR hB _ _
  obtain ⟨ok1, h1⟩ := h.addR hB hR
  exact hk v1 w1 ok1 h1
/-- a literal of one whole number -/
theorem St.litOne {N : Tmp} (x : Int) (hgd : oi.guard = none) (hd : oi.dst = some N) (hrun : (execOp a.eval oi).run Tryd.prog W = .ok (.value (.slice (some ⟨W.heap.size, 0, none⟩) 1 1)) (W.alloc (.cells #[.int .i64 x] 3))) (h : St w W L)
    (hk : ∀ v1 w1 ok1, St w w1 (obR (Kd.int .i64) 3 w ok1 v1 [x] :: L) → wpList Tryd.prog ops Q rest (a.put oi.dst v1) w1) : wpList Tryd.prog ops Q (oi :: rest) a W := by
  refine Kd.R_lit (Kd.int .i64) (w0 := W) W.heap.size 3 hgd hd (xs := [x]) (inner := [.int .i64 x]) (ok := fun _ => True) (okp := fun _ => True) hrun ⟨rfl, fun j p hj => ?_⟩ (fun _ _ => trivial) trivial (Below.refl _ _) (Nat.le_refl _) (by simp) ?_
  · cases j with
    | zero => obtain rfl : x = p := by simpa using hj
              rfl
    | succ j => simp at hj
  · intro v1 w1 hR hB _ _
    obtain ⟨ok1, h1⟩ := h.addR hB hR
    exact hk v1 w1 ok1 h1
/-- append(v, ys...) of whole numbers -/
theorem St.putInts {A : Option Addr} {m cA : Nat} (hgd : oi.guard = none) (s y : Operand) (ho : oi.op = .call { callee := .builtin .append, args := #[s, y], argTypes := #[22, 22] })
    (h : St w W L) (n : Nat) (hn : L[n]? = some (obR (Kd.int .i64) 3 w ok v xs)) (hs : a.eval s = v) (hx : a.eval y = .slice A m cA) (HR : Kd.C (Kd.int .i64) W A m ys) (hl : (xs.length + m) * 8 ≤ 140737488355328)
    (hk : ∀ v1 w1 ok1, St w w1 (L.set n (obR (Kd.int .i64) 3 w ok1 v1 (xs ++ ys))) → wpList Tryd.prog ops Q rest (a.put oi.dst v1) w1) :
    wpList Tryd.prog ops Q (oi :: rest) a W := by
  have hR : Kd.R (Kd.int .i64) 3 W w.heap.size ok v xs := h.get n hn
  refine Kd.R_append_rows (Kd.int .i64) (Rr := (Kd.int .i64).K W) (w0 := w) w.heap.size hgd s y 22 3 (.int .i64 0) 8 ho Tryd.underlying22 info3 rfl (by decide) (by omega) v xs ys A m cA (fun k => ok k ∨ W.heap.size ≤ k) (fun _ => False) hs hx (Kd.R_mono hR (fun k hk => .inl hk)) HR (fun _ _ h => h) (fun _ h => h.elim) (fun _ h => .inr h) h.below h.below.size hl ?_
  intro v1 w1 hR1 hB hg _
  exact hk v1 w1 _ (St.redo1 (o' := obR (Kd.int .i64) 3 w (fun k => (ok k ∨ W.heap.size ≤ k) ∧ w.heap.size ≤ k ∧ k < w1.heap.size) v1 (xs ++ ys)) h n hn ⟨hg.size, fun k hk hne => hg.block k hk (fun e2 => hne (hR.1 k e2.symm))⟩ hB ⟨fun k hk => hk, Kd.R_mono (Kd.R_bound hR1) (fun k hk => ⟨hk.1, hk.2.1, hk.2.2.1⟩), firmR⟩)
end
section
variable {ops : Array Oper} {rest : List Oper} {oi : Oper} {a : Act} {Q : Exit → Act → World → Prop} {w W : World} {L : List Ob} {α : Type} {d : Kd α} {o0 : Ob} {p : α} {cs : List Value} {e : Nat}
/-- a literal of one element: what it leads to is the list's from here on -/
theorem St.litOf {N : Tmp} (hgd : oi.guard = none) (hd : oi.dst = some N) (hrun : (execOp a.eval oi).run Tryd.prog W = .ok (.value (.slice (some ⟨W.heap.size, 0, none⟩) 1 1)) (W.alloc (.cells cs.toArray e))) (h : St w W (o0 :: L)) (hM : d.M W w.heap.size o0.ok p cs)
    (hk : ∀ v1 w1 ok1, St w w1 (obS d e w ok1 v1 [p] :: L) → wpList Tryd.prog ops Q rest (a.put oi.dst v1) w1) : wpList Tryd.prog ops Q (oi :: rest) a W := by
  have hcs : cs.length = d.sz := d.K_len (d.K_of_M hM)
  refine Kd.S_lits d (w0 := w) w.heap.size e hgd hd (xs := [p]) (inner := cs) (ok := fun k => o0.ok k ∨ W.heap.size ≤ k) (fun j k => j = 0 ∧ o0.ok k) hrun (by simpa using hcs) ?_ (fun i j k hi hj => hi.1.trans hj.1.symm) (fun j k hk => .inl hk.2) (.inr (Nat.le_refl _)) h.below h.below.size (by simp) ?_
  · intro j x hx
    cases j with
    | zero =>
      obtain rfl : p = x := by simpa using hx
      rw [Nat.zero_mul, List.drop_zero, ← hcs, List.take_length]
      exact d.M_mono (fun k hk => ⟨rfl, hk⟩) hM
    | succ j => simp at hx
  · intro v1 w1 hS hB hg _
    refine hk v1 w1 _ (St.redo (P := [o0]) (P' := [obS d e w (fun k => (o0.ok k ∨ W.heap.size ≤ k) ∧ w.heap.size ≤ k ∧ k < w1.heap.size) v1 [p]]) h ⟨hg.size, fun k hlt _ => hg.block k hlt (by simp)⟩ hB ?_ (List.pairwise_singleton _ _))
    intro q hq
    obtain rfl := List.mem_singleton.1 hq
    exact ⟨fun k hk => ⟨hk.1.imp (fun h1 => ⟨o0, by simp, h1⟩) id, hk.2⟩, Kd.S_mono (Kd.S_bound hS) (fun k hk => ⟨hk.1, hk.2.1, hk.2.2.1⟩), firmS⟩
end
end Go.Proofs.YthdoglkdcbghpaaDoor.Q

set_option linter.unusedVariables false
set_option linter.unusedSimpArgs false
namespace Go.Proofs.YthdoglkdcbghpaaDoor.Q
open Go.RowKit Go.Proofs.YthdoglkdcbghpaaDoor.F Go.Proofs.YthdoglkdcbghpaaDoorW.PrintWords Go.Proofs.YthdoglkdcbghpaaDoorW.PrintLast Go.Proofs.YthdoglkdcbghpaaDoorW.PrintMore
theorem spec_l1In_eq (a b c : Int) : spec_l1In.f a b c = some (decide (b ≤ a ∧ a ≤ c)) := by
  unfold spec_l1In.f
  by_cases h : b ≤ a
  · rw [if_pos h]; simp [h]
  · rw [if_neg h]; simp [h]
end Go.Proofs.YthdoglkdcbghpaaDoor.Q

set_option linter.unusedVariables false
set_option linter.unusedSimpArgs false
namespace Go.Proofs.YthdoglkdcbghpaaDoor.Q
open Go.RowKit Go.Proofs.YthdoglkdcbghpaaDoor.F Go.Proofs.YthdoglkdcbghpaaDoorW.PrintWords Go.Proofs.YthdoglkdcbghpaaDoorW.PrintLast Go.Proofs.YthdoglkdcbghpaaDoorW.PrintMore
def isWord (l : List Int) : Bool := decide (l.length ≤ 9) && l.all (fun x => decide (1 ≤ x ∧ x ≤ 9))
theorem isWord_iff {l : List Int} : isWord l = true ↔ l.length ≤ 9 ∧ ∀ x ∈ l, 1 ≤ x ∧ x ≤ 9 := by simp [isWord]
theorem impl_IsWord_eq (l : List Int) : impl_IsWord.f l = some (isWord l) := by
  unfold impl_IsWord.f isWord
  congr 2
  rw [List.any_eq_not_all_not]
  simp
theorem spec_IsWord_l0 (l : List Int) (hl : l.length ≤ 1048576) : ∀ (d i : Nat), i + d = l.length → Ev (fun k => spec_IsWord.l0 k l (i : Int)) ((l.drop i).all (fun x => decide (1 ≤ x ∧ x ≤ 9)) && decide (l.length ≤ 9)) := by
  intro d
  induction d with
  | zero =>
    intro i h
    refine Ev.step (fun k => by rw [spec_IsWord.l0]) ?_
    refine ev_neg (by omega) (ev_val ?_)
    rw [List.drop_of_length_le (by omega)]
    simp; omega
  | succ d ih =>
    intro i h
    refine Ev.step (fun k => by rw [spec_IsWord.l0]) ?_
    refine ev_pos (by omega) (ev_pos (by omega) (ev_bindc (spec_l1In_eq _ _ _) (ev_ite (fun he => ?_) (fun he => ev_val ?_))))
    · rw [wrap_succ (by omega)]
      refine ev_eq (ih (i + 1) (by omega)) ?_
      rw [drop_rd l i (by omega), List.all_cons, he, Bool.true_and]
    · rw [drop_rd l i (by omega), List.all_cons]
      simp only [Bool.not_eq_true] at he
      rw [he]; rfl
theorem spec_IsWord_ev (l : List Int) (hl : l.length ≤ 1048576) : Ev (fun k => spec_IsWord.f k l) (isWord l) := by
  unfold spec_IsWord.f
  refine ev_eq (spec_IsWord_l0 l hl l.length 0 (by omega)) ?_
  rw [List.drop_zero, isWord, Bool.and_comm]
end Go.Proofs.YthdoglkdcbghpaaDoor.Q

set_option linter.unusedVariables false
set_option linter.unusedSimpArgs false
namespace Go.Proofs.YthdoglkdcbghpaaDoor.Q
open Go.RowKit Go.Proofs.YthdoglkdcbghpaaDoor.F Go.Proofs.YthdoglkdcbghpaaDoorW.PrintWords Go.Proofs.YthdoglkdcbghpaaDoorW.PrintLast Go.Proofs.YthdoglkdcbghpaaDoorW.PrintMore
def upList (n : Nat) : List Int := (List.range n).map fun j => ((j + 1 : Nat) : Int)
@[simp] theorem upList_length (n : Nat) : (upList n).length = n := by simp [upList]
theorem upList_rd (n j : Nat) (h : j < n) : rd (upList n) (j : Int) = ((j + 1 : Nat) : Int) := by
  rw [rd_eq _ j (by simpa using h)]; simp [upList]
theorem upTo_ev (n : Nat) (hn : n ≤ 1048576) : Ev (fun k => impl_upTo.f k (n : Int)) (upList n) := by
  unfold impl_upTo.f
  refine downTo (P := fun i => Ev (fun k => impl_upTo.l0 k (upList i) (n : Int) (i : Int)) (upList n)) n ?_ ?_ 0 (by omega)
  · refine Ev.step (fun k => by rw [impl_upTo.l0]) ?_
    exact ev_neg (by omega) (ev_val rfl)
  · intro i hi h
    refine Ev.step (fun k => by rw [impl_upTo.l0]) ?_
    refine ev_pos (by omega) (ev_pos (by simp; omega) ?_)
    rw [wrap_succ (by omega)]
    have e : upList i ++ [((i + 1 : Nat) : Int)] = upList (i + 1) := by simp [upList, List.range_succ]
    rw [e]
    exact h
end Go.Proofs.YthdoglkdcbghpaaDoor.Q

set_option linter.unusedVariables false
set_option linter.unusedSimpArgs false
namespace Go.Proofs.YthdoglkdcbghpaaDoor.Q
open Go.RowKit Go.Proofs.YthdoglkdcbghpaaDoor.F Go.Proofs.YthdoglkdcbghpaaDoorW.PrintWords Go.Proofs.YthdoglkdcbghpaaDoorW.PrintLast Go.Proofs.YthdoglkdcbghpaaDoorW.PrintMore
theorem both_fst (w : List Int) (ns : Nat → Int) : ∀ i, i ≤ w.length → (bothAt w ns i).1 = (w.take i).foldl insRows []
  | 0, _ => by simp [bothAt]
  | i + 1, h => by
    show insRows (bothAt w ns i).1 (rd w (i : Int)) = _
    rw [both_fst w ns i (by omega), take_rd w i (by omega), List.foldl_append]
    rfl
theorem both_congr (w : List Int) (ns ns' : Nat → Int) : ∀ i, (∀ k, k < i → ns k = ns' k) → bothAt w ns i = bothAt w ns' i
  | 0, _ => rfl
  | i + 1, h => by
    show (insRows _ _, recQ _ _ _) = (insRows _ _, recQ _ _ _)
    rw [both_congr w ns ns' i (fun k hk => h k (by omega)), h i (by omega)]
/-- the rows of a word -/
def insAll (w : List Int) : List (List Int) := w.foldl insRows []
theorem both_insAll (w : List Int) (ns : Nat → Int) : (bothAt w ns w.length).1 = insAll w := by
  rw [both_fst w ns w.length (Nat.le_refl _), List.take_length]; rfl
theorem impl_InsertWord_ev (l : List Int) : Ev (fun k => impl_InsertWord.f k l) (if isWord l then ([], insAll l, true) else ([], [], false)) := by
  unfold impl_InsertWord.f
  refine ev_bindc (impl_IsWord_eq l) (ev_ite (fun h => ?_) (fun h => ev_val (by rw [if_neg h])))
  have h9 := (isWord_iff.1 h).1
  rw [if_pos h]
  refine Ev.bind (upTo_ev l.length (by omega)) (ev_pos ⟨by omega, by simp⟩ (ev_val ?_))
  rw [both_insAll]
theorem bulk_ins : ∀ (p : List (List Int)) (x : Int), bulk (insRows p x) = bulk p + 1
  | [], _ => rfl
  | r :: l, x => by
    simp only [insRows]
    split
    · simp only [bulk, List.length_append, List.length_cons, List.length_nil]; omega
    · simp only [bulk, List.length_set]; rw [bulk_ins l _]; omega
theorem len_ins (p : List (List Int)) (x : Int) : (insRows p x).length ≤ p.length + 1 := by
  rcases insRows_length p x with h | h <;> omega
theorem insAll_small (w : List Int) : bulk (insAll w) = w.length ∧ (insAll w).length ≤ w.length := by
  suffices h : ∀ (w : List Int) (p : List (List Int)), bulk (w.foldl insRows p) = bulk p + w.length ∧ (w.foldl insRows p).length ≤ p.length + w.length by
    have := h w []
    simp only [bulk, List.length_nil, Nat.zero_add] at this
    exact this
  intro w
  induction w with
  | nil => intro p; exact ⟨by simp, by simp⟩
  | cons x w ih =>
    intro p
    obtain ⟨h1, h2⟩ := ih (insRows p x)
    rw [bulk_ins] at h1
    have := len_ins p x
    simp only [List.foldl_cons, List.length_cons]
    exact ⟨by omega, by omega⟩
end Go.Proofs.YthdoglkdcbghpaaDoor.Q

set_option linter.unusedVariables false
set_option linter.unusedSimpArgs false
namespace Go.Proofs.YthdoglkdcbghpaaDoor.Q
open Go.RowKit Go.Proofs.YthdoglkdcbghpaaDoor.F Go.Proofs.YthdoglkdcbghpaaDoorW.PrintWords Go.Proofs.YthdoglkdcbghpaaDoorW.PrintLast Go.Proofs.YthdoglkdcbghpaaDoorW.PrintMore
theorem spec_l2Same_ev (a b : List Int) (hb : a.length ≤ 1048576) : Ev (fun k => spec_l2Same.f k a b) (decide (a = b)) := by
  unfold spec_l2Same.f
  refine ev_ite (fun h => ?_) (fun h => ev_val ?_)
  · have := downTo (P := fun i => Ev (fun k => spec_l2Same.l0 k a b (i : Int)) (decide (a.drop i = b.drop i))) a.length ?_ ?_ 0 (by omega)
    · simpa using this
    · refine Ev.step (fun k => by rw [spec_l2Same.l0]) ?_
      refine ev_neg (by omega) (ev_val ?_)
      rw [List.drop_of_length_le (by omega), List.drop_of_length_le (by omega)]
      simp
    · intro i hi ih
      refine Ev.step (fun k => by rw [spec_l2Same.l0]) ?_
      refine ev_pos (by omega) (ev_pos (by omega) (ev_pos (by omega) (ev_ite (fun he => ?_) (fun he => ev_val ?_))))
      · rw [wrap_succ (by omega)]
        refine ev_eq ih ?_
        rw [drop_rd a i (by omega), drop_rd b i (by omega), he]
        simp
      · rw [drop_rd a i (by omega), drop_rd b i (by omega)]
        simp [he]
  · have : a ≠ b := fun e => h (by rw [e])
    simp [this]
end Go.Proofs.YthdoglkdcbghpaaDoor.Q

set_option linter.unusedVariables false
set_option linter.unusedSimpArgs false
namespace Go.Proofs.YthdoglkdcbghpaaDoor.Q
open Go.RowKit Go.Proofs.YthdoglkdcbghpaaDoor.F Go.Proofs.YthdoglkdcbghpaaDoorW.PrintWords Go.Proofs.YthdoglkdcbghpaaDoorW.PrintLast Go.Proofs.YthdoglkdcbghpaaDoorW.PrintMore
def areEq (v w : List Int) : Bool := isWord v && isWord w && decide (insAll v = insAll w)
theorem impl_AreEquivalent_ev (v w : List Int) : Ev (fun k => impl_AreEquivalent.f k v w) (areEq v w) := by
  unfold impl_AreEquivalent.f
  refine Ev.bind (impl_InsertWord_ev v) (Ev.bind (impl_InsertWord_ev w) ?_)
  by_cases hv : isWord v = true
  · rw [if_pos hv]
    refine ev_pos rfl ?_
    by_cases hw : isWord w = true
    · rw [if_pos hw]
      refine ev_pos rfl (ev_bindc rfl (ev_val ?_))
      simp [areEq, hv, hw]
    · rw [if_neg hw]
      refine ev_neg (by simp) (ev_val ?_)
      simp [areEq, hw]
  · rw [if_neg hv]
    refine ev_neg (by simp) (ev_val ?_)
    simp [areEq, hv]
end Go.Proofs.YthdoglkdcbghpaaDoor.Q

set_option linter.unusedVariables false
set_option linter.unusedSimpArgs false
namespace Go.Proofs.YthdoglkdcbghpaaDoor.Q
open Go.RowKit Go.Proofs.YthdoglkdcbghpaaDoor.F Go.Proofs.YthdoglkdcbghpaaDoorW.PrintWords Go.Proofs.YthdoglkdcbghpaaDoorW.PrintLast Go.Proofs.YthdoglkdcbghpaaDoorW.PrintMore
def lexB : List Int → List Int → Bool
  | [], [] => false
  | [], _ :: _ => true
  | _ :: _, [] => false
  | a :: l, b :: m => if a = b then lexB l m else decide (a < b)
theorem lexB_self : ∀ a : List Int, lexB a a = false
  | [] => rfl
  | x :: a => by simp only [lexB]; rw [if_pos trivial]; exact lexB_self a
theorem lexB_trans : ∀ {a b c : List Int}, lexB a b = true → lexB b c = true → lexB a c = true
  | [], [], _, h, _ => by cases h
  | _ :: _, [], _, h, _ => by cases h
  | _, _ :: _, [], _, h => by cases h
  | [], _ :: _, _ :: _, _, _ => rfl
  | x :: a, y :: b, z :: c, h1, h2 => by
    simp only [lexB] at h1 h2 ⊢
    by_cases e1 : x = y
    · rw [if_pos e1] at h1
      by_cases e2 : y = z
      · rw [if_pos e2] at h2
        rw [if_pos (e1.trans e2)]
        exact lexB_trans h1 h2
      · rw [if_neg e2] at h2
        rw [if_neg (fun e => e2 (e1.symm.trans e))]
        rw [e1]; exact h2
    · rw [if_neg e1] at h1
      have h3 := of_decide_eq_true h1
      by_cases e2 : y = z
      · rw [if_neg (fun e => e1 (e.trans e2.symm)), ← e2]
        exact h1
      · rw [if_neg e2] at h2
        have h4 := of_decide_eq_true h2
        rw [if_neg (by omega)]
        exact decide_eq_true (by omega)
theorem lexB_tri : ∀ {a b : List Int}, lexB a b = false → lexB b a = false → a = b
  | [], [], _, _ => rfl
  | [], _ :: _, h, _ => by cases h
  | _ :: _, [], _, h => by cases h
  | x :: a, y :: b, h1, h2 => by
    simp only [lexB] at h1 h2
    by_cases e : x = y
    · rw [if_pos e] at h1
      rw [if_pos e.symm] at h2
      rw [e, lexB_tri h1 h2]
    · rw [if_neg e] at h1
      rw [if_neg (fun g => e g.symm)] at h2
      have := of_decide_eq_false h1
      have := of_decide_eq_false h2
      omega
theorem lexB_asymm {a b : List Int} (h : lexB a b = true) : lexB b a = false := by
  cases h2 : lexB b a with
  | false => rfl
  | true => have := lexB_trans h h2; rw [lexB_self] at this; cases this
/-- ordered, no word twice -/
def OrdW (L : List (List Int)) : Prop := L.Pairwise (fun a b => lexB a b = true)
theorem ordW_ext : ∀ {L M : List (List Int)}, OrdW L → OrdW M → (∀ x, x ∈ L ↔ x ∈ M) → L = M
  | [], [], _, _, _ => rfl
  | [], y :: M, _, _, h => by have := (h y).2 (by simp); cases this
  | x :: L, [], _, _, h => by have := (h x).1 (by simp); cases this
  | x :: L, y :: M, h1, h2, h => by
    obtain ⟨a1, a2⟩ := List.pairwise_cons.1 h1
    obtain ⟨b1, b2⟩ := List.pairwise_cons.1 h2
    have e : x = y := by
      rcases List.mem_cons.1 ((h x).1 (by simp)) with e | hx
      · exact e
      · rcases List.mem_cons.1 ((h y).2 (by simp)) with e | hy
        · exact e.symm
        · have g1 := b1 x hx
          have g2 := lexB_asymm (a1 y hy)
          rw [g1] at g2; cases g2
    subst e
    have hL : ∀ z, z ∈ L → z ≠ x := fun z hz e => by have := a1 z hz; rw [e, lexB_self] at this; cases this
    have hM : ∀ z, z ∈ M → z ≠ x := fun z hz e => by have := b1 z hz; rw [e, lexB_self] at this; cases this
    rw [ordW_ext a2 b2 (fun z => ⟨fun hz => (List.mem_cons.1 ((h z).1 (by simp [hz]))).resolve_left (hL z hz), fun hz => (List.mem_cons.1 ((h z).2 (by simp [hz]))).resolve_left (hM z hz)⟩)]
/-- a word put into an ordered list at its place -/
theorem ordW_put {A B : List (List Int)} {w : List Int} (h : OrdW (A ++ B)) (hA : ∀ a ∈ A, lexB a w = true) (hB : ∀ b ∈ B, lexB w b = true) : OrdW (A ++ w :: B) := by
  obtain ⟨h1, h2, h3⟩ := List.pairwise_append.1 h
  refine List.pairwise_append.2 ⟨h1, List.pairwise_cons.2 ⟨hB, h2⟩, fun a ha b hb => ?_⟩
  rcases List.mem_cons.1 hb with e | hb
  · rw [e]; exact hA a ha
  · exact h3 a ha b hb
/-- the words ahead of a place stand below w where the last of them does -/
theorem ordW_below {A : List (List Int)} {x w : List Int} (h : OrdW (A ++ [x])) (hx : lexB x w = true) : ∀ a ∈ A ++ [x], lexB a w = true := fun a ha => by
  rcases List.mem_append.1 ha with h1 | h1
  · exact lexB_trans ((List.pairwise_append.1 h).2.2 a h1 x (by simp)) hx
  · rw [List.mem_singleton.1 h1]; exact hx
/-- neighbors that are equal, once -/
def compactW : List (List Int) → List (List Int)
  | [] => []
  | [x] => [x]
  | x :: y :: L => if x = y then compactW (y :: L) else x :: compactW (y :: L)
theorem compactW_mem : ∀ (L : List (List Int)) (x : List Int), x ∈ compactW L ↔ x ∈ L
  | [], x => Iff.rfl
  | [y], x => Iff.rfl
  | y :: z :: L, x => by
    simp only [compactW]
    by_cases e : y = z
    · rw [if_pos e, compactW_mem (z :: L) x, e]
      simp
    · rw [if_neg e, List.mem_cons, compactW_mem (z :: L) x, List.mem_cons (b := y)]
theorem compactW_ord : ∀ {L : List (List Int)}, L.Pairwise (fun a b => lexB b a = false) → OrdW (compactW L)
  | [], _ => List.Pairwise.nil
  | [y], _ => List.pairwise_singleton _ _
  | y :: z :: L, h => by
    obtain ⟨h1, h2⟩ := List.pairwise_cons.1 h
    simp only [compactW]
    by_cases e : y = z
    · rw [if_pos e]; exact compactW_ord h2
    · rw [if_neg e]
      refine List.pairwise_cons.2 ⟨fun b hb => ?_, compactW_ord h2⟩
      have hb2 := (compactW_mem (z :: L) b).1 hb
      have hyz : lexB y z = true := by
        cases g : lexB y z with
        | true => rfl
        | false => exact absurd (lexB_tri g (h1 z (by simp))) e
      rcases List.mem_cons.1 hb2 with e2 | hb3
      · rw [e2]; exact hyz
      · have g := (List.pairwise_cons.1 h2).1 b hb3
        cases g2 : lexB z b with
        | true => exact lexB_trans hyz g2
        | false => rw [← lexB_tri g2 g]; exact hyz
/-- a sorted list made compact is the one ordered list of its words -/
theorem compactW_eq {L M : List (List Int)} (h : L.Pairwise (fun a b => lexB b a = false)) (hM : OrdW M) (he : ∀ x, x ∈ L ↔ x ∈ M) : compactW L = M :=
  ordW_ext (compactW_ord h) hM (fun x => (compactW_mem L x).trans (he x))
end Go.Proofs.YthdoglkdcbghpaaDoor.Q

set_option linter.unusedVariables false
set_option linter.unusedSimpArgs false
namespace Go.Proofs.YthdoglkdcbghpaaDoor.Q
open Go.RowKit Go.Proofs.YthdoglkdcbghpaaDoor.F Go.Proofs.YthdoglkdcbghpaaDoorW.PrintWords Go.Proofs.YthdoglkdcbghpaaDoorW.PrintLast Go.Proofs.YthdoglkdcbghpaaDoorW.PrintMore
/-- three numbers behind each exchange of them -/
def parts3 (a b c : Int) : List (List Int) := (if (c < a ∧ a ≤ b) ∨ (b < a ∧ a ≤ c) then [[a, c, b]] else []) ++ (if (a ≤ c ∧ c < b) ∨ (b ≤ c ∧ c < a) then [[b, a, c]] else [])
def waysAt (w : List Int) (i : Nat) : List (List Int) := (parts3 (rd w (i : Int)) (rd w ((i + 1 : Nat) : Int)) (rd w ((i + 2 : Nat) : Int))).map (fun p => w.take i ++ p ++ w.drop (i + 3))
def waysI (w : List Int) : List (List Int) := (List.range (w.length - 2)).flatMap (waysAt w)
theorem mem_parts3 {a b c : Int} {p : List Int} : p ∈ parts3 a b c ↔ (((c < a ∧ a ≤ b) ∨ (b < a ∧ a ≤ c)) ∧ p = [a, c, b]) ∨ (((a ≤ c ∧ c < b) ∨ (b ≤ c ∧ c < a)) ∧ p = [b, a, c]) := by
  unfold parts3
  by_cases h1 : (c < a ∧ a ≤ b) ∨ (b < a ∧ a ≤ c)
  · by_cases h2 : (a ≤ c ∧ c < b) ∨ (b ≤ c ∧ c < a)
    · rw [if_pos h1, if_pos h2]; simp [h1, h2]
    · rw [if_pos h1, if_neg h2]; simp only [h1, h2, true_and, false_and, or_false, List.append_nil, List.mem_singleton]
  · by_cases h2 : (a ≤ c ∧ c < b) ∨ (b ≤ c ∧ c < a)
    · rw [if_neg h1, if_pos h2]; simp only [h1, h2, true_and, false_and, false_or, List.nil_append, List.mem_singleton]
    · rw [if_neg h1, if_neg h2]; simp only [h1, h2, false_and, or_false, List.append_nil, List.not_mem_nil]
theorem rd_mid (U V : List Int) (a b c : Int) : rd (U ++ [a, b, c] ++ V) (U.length : Int) = a ∧ rd (U ++ [a, b, c] ++ V) ((U.length + 1 : Nat) : Int) = b ∧ rd (U ++ [a, b, c] ++ V) ((U.length + 2 : Nat) : Int) = c := by
  refine ⟨?_, ?_, ?_⟩ <;> (unfold rd; rw [Int.toNat_natCast, List.getD_eq_getElem?_getD, List.append_assoc, List.getElem?_append_right (by omega)])
  · rw [Nat.sub_self]; rfl
  · rw [show U.length + 1 - U.length = 1 by omega]; rfl
  · rw [show U.length + 2 - U.length = 2 by omega]; rfl
theorem cut3 {w : List Int} {i : Nat} (h : i < w.length - 2) : w = w.take i ++ [rd w (i : Int), rd w ((i + 1 : Nat) : Int), rd w ((i + 2 : Nat) : Int)] ++ w.drop (i + 3) := by
  have e : ∀ j : Nat, j < w.length → w.drop j = rd w (j : Int) :: w.drop (j + 1) := fun j hj => by
    rw [List.drop_eq_getElem_cons hj]
    congr 1
    unfold rd
    rw [Int.toNat_natCast, List.getD_eq_getElem?_getD, List.getElem?_eq_getElem hj]; rfl
  have h0 : w = w.take i ++ w.drop i := (List.take_append_drop i w).symm
  have h1 := e i (by omega)
  have h2 := e (i + 1) (by omega)
  have h3 := e (i + 2) (by omega)
  have h4 : w.drop i = [rd w (i : Int), rd w ((i + 1 : Nat) : Int), rd w ((i + 2 : Nat) : Int)] ++ w.drop (i + 3) := by rw [h1, h2, h3]; rfl
  rw [List.append_assoc, ← h4]
  exact h0
theorem mem_waysI {w x : List Int} : x ∈ waysI w ↔ ∃ (U V : List Int) (a b c : Int), w = U ++ [a, b, c] ++ V ∧ ∃ p ∈ parts3 a b c, x = U ++ p ++ V := by
  unfold waysI
  rw [List.mem_flatMap]
  constructor
  · rintro ⟨i, hi, hx⟩
    obtain ⟨p, hp, rfl⟩ := List.mem_map.1 hx
    exact ⟨_, _, _, _, _, cut3 (List.mem_range.1 hi), p, hp, rfl⟩
  · rintro ⟨U, V, a, b, c, rfl, p, hp, rfl⟩
    refine ⟨U.length, List.mem_range.2 (by simp; omega), List.mem_map.2 ⟨p, ?_, ?_⟩⟩
    · obtain ⟨h1, h2, h3⟩ := rd_mid U V a b c
      rw [h1, h2, h3]; exact hp
    · have e1 : (U ++ [a, b, c] ++ V).take U.length = U := by rw [List.append_assoc, List.take_left]
      have e2 : (U ++ [a, b, c] ++ V).drop (U.length + 3) = V := by
        rw [show U.length + 3 = (U ++ [a, b, c]).length by simp, List.drop_left]
      rw [e1, e2]
theorem parts3_length (a b c : Int) : (parts3 a b c).length ≤ 1 := by
  unfold parts3
  by_cases h1 : (c < a ∧ a ≤ b) ∨ (b < a ∧ a ≤ c)
  · rw [if_pos h1, if_neg (by omega)]; simp
  · rw [if_neg h1]; split <;> simp
end Go.Proofs.YthdoglkdcbghpaaDoor.Q

set_option linter.unusedVariables false
set_option linter.unusedSimpArgs false
namespace Go.Proofs.YthdoglkdcbghpaaDoor.Q
open Go.RowKit Go.Proofs.YthdoglkdcbghpaaDoor.F Go.Proofs.YthdoglkdcbghpaaDoorW.PrintWords Go.Proofs.YthdoglkdcbghpaaDoorW.PrintLast Go.Proofs.YthdoglkdcbghpaaDoorW.PrintMore
def insW (w : List Int) : List (List Int) → List (List Int)
  | [] => [w]
  | x :: l => if w = x then x :: l else if lexB w x then w :: x :: l else x :: insW w l
theorem insW_mem (w : List Int) : ∀ (l : List (List Int)) (z : List Int), z ∈ insW w l ↔ z = w ∨ z ∈ l
  | [], z => by simp [insW]
  | x :: l, z => by
    simp only [insW]
    by_cases e : w = x
    · rw [if_pos e, e]; simp
    · rw [if_neg e]
      cases h : lexB w x with
      | true => rw [if_pos rfl]; simp
      | false =>
        rw [if_neg (by simp), List.mem_cons, insW_mem w l z, List.mem_cons]
        exact ⟨fun h => h.elim (fun h => .inr (.inl h)) (fun h => h.elim .inl (fun h => .inr (.inr h))), fun h => h.elim (fun h => .inr (.inl h)) (fun h => h.elim .inl (fun h => .inr (.inr h)))⟩
theorem insW_ord (w : List Int) : ∀ {l : List (List Int)}, OrdW l → OrdW (insW w l)
  | [], _ => List.pairwise_singleton _ _
  | x :: l, h => by
    obtain ⟨h1, h2⟩ := List.pairwise_cons.1 h
    simp only [insW]
    by_cases e : w = x
    · rw [if_pos e]; exact h
    · rw [if_neg e]
      cases g : lexB w x with
      | true =>
        rw [if_pos rfl]
        refine List.pairwise_cons.2 ⟨fun b hb => ?_, h⟩
        rcases List.mem_cons.1 hb with e2 | hb
        · rw [e2]; exact g
        · exact lexB_trans g (h1 b hb)
      | false =>
        rw [if_neg (by simp)]
        refine List.pairwise_cons.2 ⟨fun b hb => ?_, insW_ord w h2⟩
        rcases (insW_mem w l b).1 hb with e2 | hb
        · rw [e2]
          cases g2 : lexB x w with
          | true => rfl
          | false => exact absurd (lexB_tri g g2) e
        · exact h1 b hb
def ordOf (l : List (List Int)) : List (List Int) := l.foldr insW []
theorem ordOf_mem (l : List (List Int)) (z : List Int) : z ∈ ordOf l ↔ z ∈ l := by
  induction l with
  | nil => exact Iff.rfl
  | cons x l ih => show z ∈ insW x (ordOf l) ↔ _; rw [insW_mem, ih, List.mem_cons]
theorem ordOf_ord (l : List (List Int)) : OrdW (ordOf l) := by
  induction l with
  | nil => exact List.Pairwise.nil
  | cons x l ih => exact insW_ord x ih
theorem ordOf_eq {l ys : List (List Int)} (h : OrdW ys) (hm : ∀ z, z ∈ ys ↔ z ∈ l) : ys = ordOf l := ordW_ext h (ordOf_ord l) (fun z => (hm z).trans (ordOf_mem l z).symm)
/-- ExchangesOf -/
def waysO (x : List Int) : List (List Int) := if isWord x = true then ordOf (waysI x) else []
theorem waysI_len {x z : List Int} (h : z ∈ waysI x) : z.length = x.length := by
  obtain ⟨U, V, a, b, c, rfl, p, hp, rfl⟩ := mem_waysI.1 h
  rcases mem_parts3.1 hp with ⟨_, rfl⟩ | ⟨_, rfl⟩ <;> simp
theorem waysO_bd (x : List Int) : (waysO x).length ≤ 9 ∧ ∀ z ∈ waysO x, z.length ≤ 9 := by
  unfold waysO
  by_cases hw : isWord x = true
  · rw [if_pos hw]
    have h9 := (isWord_iff.1 hw).1
    have h1 : ∀ l : List (List Int), (ordOf l).length ≤ l.length := fun l => by
      induction l with
      | nil => exact Nat.le_refl _
      | cons a l ih =>
        have h2 : ∀ (w : List Int) (m : List (List Int)), (insW w m).length ≤ m.length + 1 := fun w m => by
          induction m with
          | nil => exact Nat.le_refl _
          | cons b m ih =>
            simp only [insW]
            split
            · simp
            · split
              · simp
              · simp only [List.length_cons]; omega
        have := h2 a (ordOf l)
        show (insW a (ordOf l)).length ≤ _
        simp only [List.length_cons]; omega
    have h3 : ∀ n : Nat, ((List.range n).flatMap (waysAt x)).length ≤ n := fun n => by
      induction n with
      | zero => exact Nat.le_refl _
      | succ n ih =>
        rw [List.range_succ, List.flatMap_append, List.length_append]
        have : (waysAt x n).length ≤ 1 := by unfold waysAt; rw [List.length_map]; exact parts3_length _ _ _
        simp only [List.flatMap_cons, List.flatMap_nil, List.append_nil]; omega
    have h4 := h1 (waysI x)
    have h5 : (waysI x).length ≤ x.length - 2 := h3 (x.length - 2)
    refine ⟨by omega, fun z hz => ?_⟩
    rw [waysI_len ((ordOf_mem _ _).1 hz)]; exact h9
  · rw [if_neg hw]; exact ⟨Nat.zero_le _, fun z hz => by cases hz⟩
end Go.Proofs.YthdoglkdcbghpaaDoor.Q

set_option linter.unusedVariables false
set_option linter.unusedSimpArgs false
namespace Go.Proofs.YthdoglkdcbghpaaDoor.Q
open Go.RowKit Go.Proofs.YthdoglkdcbghpaaDoor.F Go.Proofs.YthdoglkdcbghpaaDoorW.PrintWords Go.Proofs.YthdoglkdcbghpaaDoorW.PrintLast Go.Proofs.YthdoglkdcbghpaaDoorW.PrintMore
section
variable {α : Type} [DecidableEq α] (nb : α → List α) (w : α)
def seen (d : Int) (s : List α × List Int) (x : α) : List α × List Int := if x ∈ s.1 then s else (s.1 ++ [x], s.2 ++ [d])
def visit (s : List α × List Int) (i : Nat) : List α × List Int := match s.1[i]? with
  | none => s
  | some y => (nb y).foldl (seen (s.2.getD i 0 + 1)) s
/-- the state behind the first n visits -/
def bfs : Nat → List α × List Int
  | 0 => ([w], [0])
  | n + 1 => visit nb (bfs n) n
def Met (s : List α × List Int) : Prop := s.1.length = s.2.length ∧ s.1.Nodup ∧ s.1[0]? = some w ∧ s.2[0]? = some 0 ∧
  (∀ j y, 0 < j → s.1[j]? = some y → ∃ i z d, i < j ∧ s.1[i]? = some z ∧ y ∈ nb z ∧ s.2[i]? = some d ∧ s.2[j]? = some (d + 1))
variable {nb w}
theorem some_append {β : Type} {l m : List β} {i : Nat} {y : β} (h : l[i]? = some y) : (l ++ m)[i]? = some y := by
  obtain ⟨h1, _⟩ := List.getElem?_eq_some_iff.1 h
  rw [List.getElem?_append_left h1]; exact h
theorem seen_met {s : List α × List Int} {x z : α} {d0 : Int} {i : Nat} (h : Met nb w s) (hi : s.1[i]? = some z) (hd : s.2[i]? = some d0) (hx : x ∈ nb z) : Met nb w (seen (d0 + 1) s x) := by
  unfold seen
  by_cases hm : x ∈ s.1
  · rw [if_pos hm]; exact h
  · rw [if_neg hm]
    obtain ⟨h1, h2, h3, h4, h5⟩ := h
    refine ⟨by simp [h1], ?_, some_append h3, some_append h4, fun j y hj hy => ?_⟩
    · refine List.nodup_append.2 ⟨h2, by simp, fun a ha b hb => ?_⟩
      rw [List.mem_singleton.1 hb]
      exact fun e => hm (e ▸ ha)
    · by_cases hjl : j < s.1.length
      · have hy2 : s.1[j]? = some y := by
          rw [List.getElem?_append_left hjl] at hy; exact hy
        obtain ⟨i2, z2, d2, g1, g2, g3, g4, g5⟩ := h5 j y hj hy2
        exact ⟨i2, z2, d2, g1, some_append g2, g3, some_append g4, some_append g5⟩
      · obtain ⟨hil, _⟩ := List.getElem?_eq_some_iff.1 hi
        have hj2 : j = s.1.length := by
          obtain ⟨hl, _⟩ := List.getElem?_eq_some_iff.1 hy
          simp at hl; omega
        subst hj2
        have hyx : y = x := by
          rw [List.getElem?_append_right (Nat.le_refl _), Nat.sub_self] at hy
          simpa using hy.symm
        subst hyx
        refine ⟨i, z, d0, hil, some_append hi, hx, some_append hd, ?_⟩
        show (s.2 ++ [d0 + 1])[s.1.length]? = _
        rw [List.getElem?_append_right (by omega), h1, Nat.sub_self]; rfl
theorem seen_grow (d : Int) (s : List α × List Int) (x : α) : (∃ a, (seen d s x).1 = s.1 ++ a) ∧ (∃ b, (seen d s x).2 = s.2 ++ b) ∧ x ∈ (seen d s x).1 := by
  unfold seen
  by_cases hm : x ∈ s.1
  · rw [if_pos hm]; exact ⟨⟨[], by simp⟩, ⟨[], by simp⟩, hm⟩
  · rw [if_neg hm]; exact ⟨⟨[x], rfl⟩, ⟨[d], rfl⟩, by simp⟩
theorem fold_met {z : α} {d0 : Int} {i : Nat} : ∀ (ns : List α) (s : List α × List Int), Met nb w s → s.1[i]? = some z → s.2[i]? = some d0 → (∀ x ∈ ns, x ∈ nb z) →
    Met nb w (ns.foldl (seen (d0 + 1)) s) ∧ (∃ a, (ns.foldl (seen (d0 + 1)) s).1 = s.1 ++ a) ∧ (∀ x ∈ ns, x ∈ (ns.foldl (seen (d0 + 1)) s).1)
  | [], s, h, _, _, _ => ⟨h, ⟨[], by simp⟩, fun x hx => by cases hx⟩
  | x :: ns, s, h, hi, hd, hn => by
    obtain ⟨⟨a, ea⟩, ⟨b, eb⟩, hx⟩ := seen_grow (d0 + 1) s x
    obtain ⟨g1, ⟨a2, g2⟩, g3⟩ := fold_met ns (seen (d0 + 1) s x) (seen_met h hi hd (hn x (by simp))) (by rw [ea]; exact some_append hi) (by rw [eb]; exact some_append hd) (fun y hy => hn y (by simp [hy]))
    refine ⟨g1, ⟨a ++ a2, by rw [List.foldl_cons, g2, ea, List.append_assoc]⟩, fun y hy => ?_⟩
    rcases List.mem_cons.1 hy with e | hy
    · rw [e, List.foldl_cons, g2]; exact List.mem_append_left _ hx
    · exact g3 y hy
theorem bfs_met (n : Nat) : Met nb w (bfs nb w n) ∧ ∀ i y, i < n → (bfs nb w n).1[i]? = some y → ∀ x ∈ nb y, x ∈ (bfs nb w n).1 := by
  induction n with
  | zero =>
    refine ⟨⟨rfl, by simp [bfs], rfl, rfl, fun j y hj hy => ?_⟩, fun i y hi => by omega⟩
    obtain ⟨hl, _⟩ := List.getElem?_eq_some_iff.1 hy
    simp [bfs] at hl; omega
  | succ n ih =>
    obtain ⟨h1, h2⟩ := ih
    show Met nb w (visit nb (bfs nb w n) n) ∧ ∀ i y, i < n + 1 → (visit nb (bfs nb w n) n).1[i]? = some y → ∀ x ∈ nb y, x ∈ (visit nb (bfs nb w n) n).1
    unfold visit
    cases hz : (bfs nb w n).1[n]? with
    | none =>
      refine ⟨h1, fun i y hi hy => ?_⟩
      rcases Nat.lt_or_ge i n with h | h
      · exact h2 i y h hy
      · obtain rfl : i = n := by omega
        have hy2 : (bfs nb w i).1[i]? = some y := hy
        rw [hz] at hy2; cases hy2
    | some z =>
      obtain ⟨hl, _⟩ := List.getElem?_eq_some_iff.1 hz
      have hl2 : n < (bfs nb w n).2.length := by rw [← h1.1]; exact hl
      have hd : (bfs nb w n).2[n]? = some ((bfs nb w n).2.getD n 0) := by rw [List.getD_eq_getElem?_getD, List.getElem?_eq_getElem hl2]; rfl
      obtain ⟨g1, ⟨a, g2⟩, g3⟩ := fold_met (nb z) (bfs nb w n) h1 hz hd (fun x hx => hx)
      refine ⟨g1, fun i y hi hy x hx => ?_⟩
      have hy2 : ((bfs nb w n).1 ++ a)[i]? = some y := by rw [← g2]; exact hy
      rcases Nat.lt_or_ge i n with h | h
      · rw [List.getElem?_append_left (by omega)] at hy2
        have g4 : x ∈ ((nb z).foldl (seen ((bfs nb w n).2.getD n 0 + 1)) (bfs nb w n)).1 := by rw [g2]; exact List.mem_append_left _ (h2 i y h hy2 x hx)
        exact g4
      · obtain rfl : i = n := by omega
        rw [List.getElem?_append_left hl, hz] at hy2
        obtain rfl := Option.some.inj hy2
        exact g3 x hx
/-- once all that is met is visited, what is met is closed -/
theorem bfs_closed {n : Nat} (h : (bfs nb w n).1.length ≤ n) : ∀ y ∈ (bfs nb w n).1, ∀ x ∈ nb y, x ∈ (bfs nb w n).1 := fun y hy x hx => by
  obtain ⟨i, hi, e⟩ := List.getElem_of_mem hy
  exact (bfs_met n).2 i y (by omega) (by rw [List.getElem?_eq_getElem hi, e]) x hx
end
end Go.Proofs.YthdoglkdcbghpaaDoor.Q

set_option linter.unusedVariables false
set_option linter.unusedSimpArgs false
namespace Go.Proofs.YthdoglkdcbghpaaDoor.Q
open Go.RowKit Go.Proofs.YthdoglkdcbghpaaDoor.F Go.Proofs.YthdoglkdcbghpaaDoorW.PrintWords Go.Proofs.YthdoglkdcbghpaaDoorW.PrintLast Go.Proofs.YthdoglkdcbghpaaDoorW.PrintMore
/-- a list without a member twice is no longer than one that holds it -/
theorem nodup_le : ∀ {L M : List (List Int)}, L.Nodup → (∀ x ∈ L, x ∈ M) → L.length ≤ M.length
  | [], _, _, _ => Nat.zero_le _
  | x :: L, M, h, hs => by
    obtain ⟨h1, h2⟩ := List.nodup_cons.1 h
    have hx := hs x (by simp)
    have := nodup_le (L := L) (M := M.erase x) h2 (fun y hy => (List.mem_erase_of_ne (show y ≠ x from fun e => h1 (by rw [← e]; exact hy))).2 (hs y (by simp [hy])))
    rw [List.length_erase_of_mem hx] at this
    have := List.length_pos_of_mem hx
    simp only [List.length_cons]
    omega
def putAll (x : Int) (p : List Int) : List (List Int) := (List.range (p.length + 1)).map (fun i => p.take i ++ x :: p.drop i)
def permsW : List Int → List (List Int)
  | [] => [[]]
  | x :: l => (permsW l).flatMap (putAll x)
theorem permsW_mem : ∀ {l v : List Int}, v.Perm l → v ∈ permsW l
  | [], v, h => by rw [List.Perm.eq_nil h]; simp [permsW]
  | x :: l, v, h => by
    have hx : x ∈ v := h.mem_iff.2 (by simp)
    obtain ⟨s, t, rfl⟩ := List.append_of_mem hx
    have h2 : (s ++ t).Perm l := ((List.perm_middle (a := x) (l₁ := s) (l₂ := t)).symm.trans h).cons_inv
    refine List.mem_flatMap.2 ⟨s ++ t, permsW_mem h2, List.mem_map.2 ⟨s.length, List.mem_range.2 (by simp; omega), ?_⟩⟩
    show (s ++ t).take s.length ++ x :: (s ++ t).drop s.length = _
    rw [List.take_left, List.drop_left]
def factW : Nat → Nat
  | 0 => 1
  | n + 1 => (n + 1) * factW n
theorem flat_putAll (x : Int) (k : Nat) : ∀ ps : List (List Int), (∀ p ∈ ps, p.length = k) → (ps.flatMap (putAll x)).length = (k + 1) * ps.length ∧ ∀ q ∈ ps.flatMap (putAll x), q.length = k + 1
  | [], _ => ⟨by simp, fun q hq => by cases hq⟩
  | p :: ps, h => by
    obtain ⟨h1, h2⟩ := flat_putAll x k ps (fun q hq => h q (by simp [hq]))
    have h3 := h p (by simp)
    refine ⟨?_, fun q hq => ?_⟩
    · rw [List.flatMap_cons, List.length_append, h1, List.length_cons]
      have : (putAll x p).length = k + 1 := by simp [putAll, h3]
      rw [this, Nat.mul_add, Nat.mul_one, Nat.add_comm]
    · rw [List.flatMap_cons] at hq
      rcases List.mem_append.1 hq with hq | hq
      · obtain ⟨i, hi, rfl⟩ := List.mem_map.1 hq
        have := List.mem_range.1 hi
        simp; omega
      · exact h2 q hq
theorem permsW_length : ∀ l : List Int, (permsW l).length = factW l.length ∧ ∀ q ∈ permsW l, q.length = l.length
  | [] => ⟨rfl, fun q hq => by rw [List.mem_singleton.1 hq]⟩
  | x :: l => by
    obtain ⟨h1, h2⟩ := permsW_length l
    obtain ⟨h3, h4⟩ := flat_putAll x l.length (permsW l) h2
    exact ⟨by show ((permsW l).flatMap (putAll x)).length = (l.length + 1) * factW l.length; rw [h3, h1], h4⟩
end Go.Proofs.YthdoglkdcbghpaaDoor.Q

set_option linter.unusedVariables false
set_option linter.unusedSimpArgs false
namespace Go.Proofs.YthdoglkdcbghpaaDoor.Q
open Go.RowKit Go.Proofs.YthdoglkdcbghpaaDoor.F Go.Proofs.YthdoglkdcbghpaaDoorW.PrintWords Go.Proofs.YthdoglkdcbghpaaDoorW.PrintLast Go.Proofs.YthdoglkdcbghpaaDoorW.PrintMore
theorem waysI_perm {x z : List Int} (h : z ∈ waysI x) : z.Perm x := by
  obtain ⟨U, V, a, b, c, rfl, p, hp, rfl⟩ := mem_waysI.1 h
  rcases mem_parts3.1 hp with ⟨_, rfl⟩ | ⟨_, rfl⟩
  · exact ((List.Perm.swap b c []).cons a |>.append_left U).append_right V
  · exact ((List.Perm.swap a b [c]).append_left U).append_right V
theorem waysO_perm {x z : List Int} (h : z ∈ waysO x) : z.Perm x := by
  unfold waysO at h
  split at h
  · exact waysI_perm ((ordOf_mem _ _).1 h)
  · cases h
theorem isWord_perm {x z : List Int} (h : z.Perm x) (hx : isWord x = true) : isWord z = true := by
  obtain ⟨h1, h2⟩ := isWord_iff.1 hx
  exact isWord_iff.2 ⟨by rw [h.length_eq]; exact h1, fun v hv => h2 v (h.mem_iff.1 hv)⟩
theorem bfs_perm (w : List Int) (n : Nat) : ∀ x ∈ (bfs waysO w n).1, x.Perm w := by
  have key : ∀ (m j : Nat), j < m → ∀ y, (bfs waysO w n).1[j]? = some y → y.Perm w := by
    intro m
    induction m with
    | zero => intro j hj; omega
    | succ m ih =>
      intro j hj y hy
      obtain ⟨⟨_, _, h3, _, h5⟩, _⟩ := bfs_met (nb := waysO) (w := w) n
      by_cases h0 : j = 0
      · subst h0
        rw [h3] at hy
        rw [← Option.some.inj hy]
      · obtain ⟨i, z, d, g1, g2, g3, _, _⟩ := h5 j y (by omega) hy
        exact (waysO_perm g3).trans (ih i (by omega) z g2)
  intro x hx
  obtain ⟨i, hi, e⟩ := List.getElem_of_mem hx
  exact key (i + 1) i (by omega) x (by rw [List.getElem?_eq_getElem hi, e])
theorem bfs_few (w : List Int) (hw : w.length ≤ 9) (n : Nat) : (bfs waysO w n).1.length ≤ 362880 := by
  have h1 : (bfs waysO w n).1.length ≤ factW w.length := by
    rw [← (permsW_length w).1]
    exact nodup_le (bfs_met (nb := waysO) (w := w) n).1.2.1 (fun x hx => permsW_mem (bfs_perm w n x hx))
  have h2 : ∀ m, m ≤ 9 → factW m ≤ 362880 := by decide
  exact Nat.le_trans h1 (h2 _ hw)
theorem bfs_stop {w : List Int} {n : Nat} (h : (bfs waysO w n).1.length ≤ n) : ∀ m, n ≤ m → bfs waysO w m = bfs waysO w n := by
  intro m hm
  obtain ⟨d, rfl⟩ : ∃ d, m = n + d := ⟨m - n, by omega⟩
  clear hm
  induction d with
  | zero => rfl
  | succ d ih =>
    show visit waysO (bfs waysO w (n + d)) (n + d) = _
    unfold visit
    rw [ih, List.getElem?_eq_none (by omega)]
/-- the bound, in a form that no reckoning unfolds -/
noncomputable def capW : Nat := Classical.choose (⟨362880, rfl⟩ : ∃ n : Nat, n = 362880)
theorem capW_eq : capW = 362880 := Classical.choose_spec (⟨362880, rfl⟩ : ∃ n : Nat, n = 362880)
noncomputable def reachW (w : List Int) : List (List Int) × List Int := bfs waysO w capW
theorem reachW_eq {w : List Int} {n : Nat} (hn : n ≤ 362880) (h : (bfs waysO w n).1.length ≤ n) : bfs waysO w n = reachW w := (bfs_stop h capW (by rw [capW_eq]; exact hn)).symm
/-- how far a word is, where it is met -/
def farOf (s : List (List Int) × List Int) (y : List Int) : Option Int := if y ∈ s.1 then some (s.2.getD (s.1.idxOf y) 0) else none
theorem farOf_snoc {s : List (List Int) × List Int} (hl : s.1.length = s.2.length) {x : List Int} (hx : x ∉ s.1) (d : Int) (y : List Int) : farOf (s.1 ++ [x], s.2 ++ [d]) y = if y = x then some d else farOf s y := by
  unfold farOf
  by_cases e : y = x
  · rw [if_pos e, if_pos (by rw [e]; simp)]
    rw [e, List.idxOf_append, if_neg hx, List.idxOf_cons_self, hl, List.getD_eq_getElem?_getD, List.getElem?_append_right (by omega)]
    simp
  · rw [if_neg e]
    by_cases hy : y ∈ s.1
    · rw [if_pos (by simp [hy]), if_pos hy, List.idxOf_append, if_pos hy, List.getD_eq_getElem?_getD, List.getD_eq_getElem?_getD, List.getElem?_append_left (by rw [← hl]; exact List.idxOf_lt_length_of_mem hy)]
    · rw [if_neg (by simp [hy, e]), if_neg hy]
theorem farOf_at {s : List (List Int) × List Int} (hn : s.1.Nodup) {i : Nat} {y : List Int} (h : s.1[i]? = some y) : farOf s y = some (s.2.getD i 0) := by
  obtain ⟨hi, e⟩ := List.getElem?_eq_some_iff.1 h
  unfold farOf
  rw [if_pos (List.mem_of_getElem? h)]
  congr 2
  have h1 := List.idxOf_lt_length_of_mem (List.mem_of_getElem? h)
  have h2 : s.1[s.1.idxOf y] = y := List.getElem_idxOf h1
  have hp := List.pairwise_iff_getElem.1 hn
  rcases Nat.lt_trichotomy (s.1.idxOf y) i with h3 | h3 | h3
  · exact absurd (h2.trans e.symm) (hp _ _ h1 hi h3)
  · exact h3
  · exact absurd (e.trans h2.symm) (hp _ _ hi h1 h3)
theorem fold_seen_far (d : Int) : ∀ (ns : List (List Int)) (s : List (List Int) × List Int), s.1.length = s.2.length → s.1.Nodup → (ns.foldl (seen d) s).1.length = (ns.foldl (seen d) s).2.length ∧ (ns.foldl (seen d) s).1.Nodup
  | [], s, h, hn => ⟨h, hn⟩
  | x :: ns, s, h, hn => by
    refine fold_seen_far d ns (seen d s x) ?_ ?_
    · unfold seen
      split
      · exact h
      · simp [h]
    · unfold seen
      split
      · exact hn
      · rename_i hm
        exact List.nodup_append.2 ⟨hn, by simp, fun a ha b hb e => hm (by rw [List.mem_singleton.1 hb] at e; exact e ▸ ha)⟩
theorem bfs_far (w : List Int) (n : Nat) : ∀ (j : Nat) (v : Int), (bfs waysO w n).2[j]? = some v → 0 ≤ v ∧ v ≤ (j : Int) := by
  obtain ⟨⟨h1, _, _, h4, h5⟩, _⟩ := bfs_met (nb := waysO) (w := w) n
  have key : ∀ m j : Nat, j < m → ∀ v : Int, (bfs waysO w n).2[j]? = some v → 0 ≤ v ∧ v ≤ (j : Int) := by
    intro m
    induction m with
    | zero => intro j hj; omega
    | succ m ih =>
      intro j hj v hv
      by_cases h0 : j = 0
      · subst h0
        rw [h4] at hv
        injection hv with hv
        omega
      · obtain ⟨hjl, _⟩ := List.getElem?_eq_some_iff.1 hv
        obtain ⟨i, z, d, g1, g2, g3, g4, g5⟩ := h5 j _ (by omega) (List.getElem?_eq_getElem (by omega))
        have := ih i (by omega) d g4
        rw [hv] at g5
        injection g5 with g5
        omega
  exact fun j v hv => key (j + 1) j (by omega) v hv
theorem fold_seen_grow (d : Int) : ∀ (ns : List (List Int)) (s : List (List Int) × List Int), (∃ a, (ns.foldl (seen d) s).1 = s.1 ++ a) ∧ (∃ b, (ns.foldl (seen d) s).2 = s.2 ++ b)
  | [], s => ⟨⟨[], by simp⟩, ⟨[], by simp⟩⟩
  | x :: ns, s => by
    obtain ⟨⟨a, ea⟩, ⟨b, eb⟩, _⟩ := seen_grow d s x
    obtain ⟨⟨a2, h1⟩, ⟨b2, h2⟩⟩ := fold_seen_grow d ns (seen d s x)
    exact ⟨⟨a ++ a2, by rw [List.foldl_cons, h1, ea, List.append_assoc]⟩, ⟨b ++ b2, by rw [List.foldl_cons, h2, eb, List.append_assoc]⟩⟩
end Go.Proofs.YthdoglkdcbghpaaDoor.Q

set_option linter.unusedVariables false
set_option linter.unusedSimpArgs false
namespace Go.Proofs.YthdoglkdcbghpaaDoor.Q
open Go.RowKit Go.Proofs.YthdoglkdcbghpaaDoor.F Go.Proofs.YthdoglkdcbghpaaDoorW.PrintWords Go.Proofs.YthdoglkdcbghpaaDoorW.PrintLast Go.Proofs.YthdoglkdcbghpaaDoorW.PrintMore
/-- a row: its mark in the pool, where it lies, what it says -/
structure Rw where
  k : Nat
  A : Option Addr
  c : Nat
  r : List Int
instance : Inhabited Rw := ⟨⟨0, none, 0, []⟩⟩
def Rw.v (p : Rw) : Value := .slice p.A p.r.length p.c
def spK : Kd Rw := Kd.scalar Rw.v (fun _ => rfl)
/-- rows, apart by their marks -/
def obP (w : World) (ok : Nat → Prop) (D : List Rw) : Ob := ⟨ok, fun W => ∃ f : Nat → Nat, ∀ p ∈ D, Kd.R (Kd.int .i64) 3 W w.heap.size (fun b => ok b ∧ f b = p.k) p.v p.r⟩
theorem nodup_at {β : Type} {l : List β} (h : l.Nodup) {i j : Nat} (hi : i < l.length) (hj : j < l.length) (e : l[i] = l[j]) : i = j := by
  have hp := List.pairwise_iff_getElem.1 h
  rcases Nat.lt_trichotomy i j with h1 | h1 | h1
  · exact absurd e (hp i j hi hj h1)
  · exact h1
  · exact absurd e.symm (hp j i hj hi h1)
theorem marks_nodup (n m : Nat) : ((List.range n).map (· + m)).Nodup := List.pairwise_map.2 (List.nodup_range.imp (fun h e => h (Nat.add_right_cancel e)))
theorem listOf {n : Nat} {Q : Nat → Rw → Prop} (h : ∀ j, j < n → ∃ p, Q j p) : ∃ ps : List Rw, ps.length = n ∧ ∀ j (hj : j < ps.length), Q j ps[j] := by
  induction n with
  | zero => exact ⟨[], rfl, fun j hj => absurd hj (Nat.not_lt_zero j)⟩
  | succ n ih =>
    obtain ⟨ps, hl, hp⟩ := ih (fun j hj => h j (by omega))
    obtain ⟨p, hq⟩ := h n (by omega)
    refine ⟨ps ++ [p], by simp [hl], fun j hj => ?_⟩
    rw [List.length_append, List.length_singleton] at hj
    rcases Nat.lt_or_ge j ps.length with h1 | h1
    · rw [List.getElem_append_left h1]; exact hp j h1
    · obtain rfl : j = n := by omega
      rw [List.getElem_append_right h1]
      simpa [hl] using hq
section
variable {w W : World} {L : List Ob} {ok ok1 ok2 : Nat → Prop} {v : Value} {xs : List (List Int)} {t : Nat} {ps D D1 D2 : List Rw}
theorem firmP : Firm (obP w ok D) := fun W W' h hm => by
  obtain ⟨f, h1⟩ := h
  exact ⟨f, fun p hp => Kd.R_step (h1 p hp) (fun b hb hlt => hm b hb.1 hlt)⟩
/-- a list of rows comes apart: the spine, and the rows; the marks begin at m -/
theorem St.split (h : St w W (obS (Kd.slice 3 (Kd.int .i64)) t w ok v xs :: L)) (m : Nat) :
    ∃ ps ok1 ok2, ps.map Rw.r = xs ∧ ps.map Rw.k = (List.range xs.length).map (· + m) ∧ St w W (obR spK t w ok1 v ps :: obP w ok2 ps :: L) := by
  have hS : Kd.S (Kd.slice 3 (Kd.int .i64)) t W w.heap.size ok v xs := h.get 0 rfl
  have hw := (h.own _ List.mem_cons_self).1
  obtain ⟨f, h0, inner, ho, hr⟩ := hS
  rw [List.length_zipIdx] at ho
  have hl : inner.length = xs.length := by
    have := hr.1
    rw [List.length_zipIdx] at this
    rw [this]; show xs.length * 1 = _; omega
  obtain ⟨ps, hpl, hp⟩ := listOf (n := xs.length) (Q := fun j p => ∃ hj : j < xs.length, p.k = j + m ∧ p.r = xs[j] ∧ inner[j]? = some p.v ∧ Kd.R (Kd.int .i64) 3 W w.heap.size (fun b => (ok b ∧ some b ≠ v.ownBlock) ∧ f b = j) p.v p.r) (fun j hj => by
    have h1 := hr.2 j (xs[j], j) (Kd.zip_at (List.getElem?_eq_getElem hj))
    obtain ⟨u, e, hR⟩ : ∃ u, (inner.drop (j * 1)).take 1 = [u] ∧ Kd.R (Kd.int .i64) 3 W w.heap.size (fun b => (ok b ∧ some b ≠ v.ownBlock) ∧ f b = j) u xs[j] := h1
    obtain ⟨A, c, rfl⟩ := Kd.R_slice hR
    rw [Nat.mul_one, List.drop_eq_getElem_cons (by omega)] at e
    have e2 : inner[j]'(by omega) = .slice A xs[j].length c := (List.cons.inj (show [inner[j]'(by omega)] = [_] from e)).1
    exact ⟨⟨j + m, A, c, xs[j]⟩, hj, rfl, rfl, by rw [List.getElem?_eq_getElem (by omega), e2]; rfl, hR⟩)
  have e1 : ps.map Rw.r = xs := List.ext_getElem (by simp [hpl]) (fun j h1 h2 => by
    rw [List.getElem_map]
    exact (hp j (by simpa using h1)).2.2.1)
  have e2 : ps.map Rw.k = (List.range xs.length).map (· + m) := List.ext_getElem (by simp [hpl]) (fun j h1 h2 => by
    rw [List.getElem_map, List.getElem_map, List.getElem_range]
    exact (hp j (by simpa using h1)).2.1)
  refine ⟨ps, fun b => ok b ∧ some b = v.ownBlock, fun b => ok b ∧ some b ≠ v.ownBlock, e1, e2, ?_⟩
  refine St.redo (P := [obS (Kd.slice 3 (Kd.int .i64)) t w ok v xs]) (P' := [obR spK t w (fun b => ok b ∧ some b = v.ownBlock) v ps, obP w (fun b => ok b ∧ some b ≠ v.ownBlock) ps]) h (Kept.refl _ _) h.below ?_ ?_
  · intro q hq
    rcases List.mem_cons.1 hq with rfl | hq
    · refine ⟨fun b hb => ⟨.inl ⟨_, List.mem_cons_self, hb.1⟩, hw b hb.1⟩, ⟨fun b hb => ⟨h0 b hb, hb.symm⟩, inner, by rw [hpl]; exact ho, ?_⟩, firmR⟩
      refine ⟨by rw [hl, hpl]; show _ = _ * 1; omega, fun j p hj => ?_⟩
      obtain ⟨hlt, e⟩ := List.getElem?_eq_some_iff.1 hj
      subst e
      have h3 := (hp j hlt).2.2.2.1
      obtain ⟨h4, h5⟩ := List.getElem?_eq_some_iff.1 h3
      show (inner.drop (j * 1)).take 1 = [ps[j].v]
      rw [Nat.mul_one, List.drop_eq_getElem_cons h4, h5]
      rfl
    · obtain rfl := List.mem_singleton.1 hq
      refine ⟨fun b hb => ⟨.inl ⟨_, List.mem_cons_self, hb.1⟩, hw b hb.1⟩, ⟨fun b => f b + m, fun p hpm => ?_⟩, firmP⟩
      obtain ⟨j, hj, rfl⟩ := List.mem_iff_getElem.1 hpm
      obtain ⟨_, hk, _, _, hR⟩ := hp j hj
      exact Kd.R_mono hR (fun b hb => ⟨hb.1, by show f b + m = _; rw [hk, hb.2]⟩)
  · refine List.Pairwise.cons (fun p hpm b hb hb2 => ?_) (List.pairwise_singleton _ _)
    obtain rfl := List.mem_singleton.1 hpm
    exact hb2.2 hb.2
/-- and together again: rows of the pool, no mark told twice -/
theorem St.join (h : St w W (obR spK t w ok1 v ps :: obP w ok2 D :: L)) (hD : ∀ p ∈ ps, p ∈ D) (hN : (ps.map Rw.k).Nodup) : ∃ ok, St w W (obS (Kd.slice 3 (Kd.int .i64)) t w ok v (ps.map Rw.r) :: L) := by
  have hR : Kd.R spK t W w.heap.size ok1 v ps := h.get 0 rfl
  obtain ⟨f, hf⟩ : ∃ f : Nat → Nat, ∀ p ∈ D, Kd.R (Kd.int .i64) 3 W w.heap.size (fun b => ok2 b ∧ f b = p.k) p.v p.r := h.get 1 rfl
  have hw1 := (h.own _ List.mem_cons_self).1
  have hw2 := (h.own _ (List.mem_cons_of_mem _ List.mem_cons_self)).1
  have hap : ∀ b, ok1 b → ¬ ok2 b := (List.pairwise_cons.1 h.apart).1 _ List.mem_cons_self
  obtain ⟨h0, inner, ho, hr⟩ := hR
  refine ⟨fun b => ok1 b ∨ ok2 b, St.redo (P := [obR spK t w ok1 v ps, obP w ok2 D]) (P' := [obS (Kd.slice 3 (Kd.int .i64)) t w (fun b => ok1 b ∨ ok2 b) v (ps.map Rw.r)]) h (Kept.refl _ _) h.below ?_ (List.pairwise_singleton _ _)⟩
  intro q hq
  obtain rfl := List.mem_singleton.1 hq
  refine ⟨fun b hb => ?_, ⟨fun b => (ps.map Rw.k).idxOf (f b), fun b hb => .inl (h0 b hb), inner, ?_, ?_⟩, firmS⟩
  · rcases hb with hb | hb
    · exact ⟨.inl ⟨_, List.mem_cons_self, hb⟩, hw1 b hb⟩
    · exact ⟨.inl ⟨_, List.mem_cons_of_mem _ List.mem_cons_self, hb⟩, hw2 b hb⟩
  · rw [List.length_zipIdx, List.length_map]; exact ho
  · have hl : inner.length = ps.length := by
      have := hr.1
      rw [this]; show _ * 1 = _; omega
    refine ⟨by rw [hl, List.length_zipIdx, List.length_map]; show _ = _ * 1; omega, fun j p hj => ?_⟩
    rw [List.getElem?_zipIdx, List.getElem?_map] at hj
    obtain ⟨x, hx, e⟩ := Option.map_eq_some_iff.1 hj
    obtain ⟨q, hq, e2⟩ := Option.map_eq_some_iff.1 hx
    subst e e2
    obtain ⟨hlt, e3⟩ := List.getElem?_eq_some_iff.1 hq
    have h3 : (inner.drop (j * 1)).take 1 = [q.v] := hr.2 j q hq
    refine ⟨q.v, h3, ?_⟩
    refine Kd.R_mono (hf q (hD q (by rw [← e3]; exact List.getElem_mem hlt))) (fun b hb => ⟨⟨.inr hb.1, fun e4 => hap b (h0 b e4.symm) hb.1⟩, ?_⟩)
    show (ps.map Rw.k).idxOf (f b) = 0 + j
    rw [hb.2, Nat.zero_add]
    have h5 : j < (ps.map Rw.k).length := by simpa using hlt
    have h6 : (ps.map Rw.k)[j] = q.k := by rw [List.getElem_map, e3]
    rw [← h6]
    have h7 := List.getElem_idxOf (xs := ps.map Rw.k) (x := (ps.map Rw.k)[j]) (List.idxOf_lt_length_of_mem (List.getElem_mem h5))
    exact nodup_at hN _ h5 h7
/-- pools are poured together -/
theorem St.pour (h : St w W (obP w ok1 D1 :: obP w ok2 D2 :: L)) : ∃ ok, St w W (obP w ok (D1 ++ D2) :: L) := by
  obtain ⟨f1, h1⟩ : ∃ f : Nat → Nat, ∀ p ∈ D1, Kd.R (Kd.int .i64) 3 W w.heap.size (fun b => ok1 b ∧ f b = p.k) p.v p.r := h.get 0 rfl
  obtain ⟨f2, h2⟩ : ∃ f : Nat → Nat, ∀ p ∈ D2, Kd.R (Kd.int .i64) 3 W w.heap.size (fun b => ok2 b ∧ f b = p.k) p.v p.r := h.get 1 rfl
  have hw1 := (h.own _ List.mem_cons_self).1
  have hw2 := (h.own _ (List.mem_cons_of_mem _ List.mem_cons_self)).1
  have hap : ∀ b, ok1 b → ¬ ok2 b := (List.pairwise_cons.1 h.apart).1 _ List.mem_cons_self
  classical
  refine ⟨fun b => ok1 b ∨ ok2 b, St.redo (P := [obP w ok1 D1, obP w ok2 D2]) (P' := [obP w (fun b => ok1 b ∨ ok2 b) (D1 ++ D2)]) h (Kept.refl _ _) h.below ?_ (List.pairwise_singleton _ _)⟩
  intro q hq
  obtain rfl := List.mem_singleton.1 hq
  refine ⟨fun b hb => ?_, ⟨fun b => if ok1 b then f1 b else f2 b, fun p hp => ?_⟩, firmP⟩
  · rcases hb with hb | hb
    · exact ⟨.inl ⟨_, List.mem_cons_self, hb⟩, hw1 b hb⟩
    · exact ⟨.inl ⟨_, List.mem_cons_of_mem _ List.mem_cons_self, hb⟩, hw2 b hb⟩
  · rcases List.mem_append.1 hp with hp | hp
    · exact Kd.R_mono (h1 p hp) (fun b hb => ⟨.inl hb.1, (if_pos hb.1).trans hb.2⟩)
    · exact Kd.R_mono (h2 p hp) (fun b hb => ⟨.inr hb.1, (if_neg (fun e => hap b e hb.1)).trans hb.2⟩)
/-- a row goes into a pool of its own -/
theorem St.pool {A : Option Addr} {c : Nat} {r : List Int} (h : St w W (obR (Kd.int .i64) 3 w ok (.slice A r.length c) r :: L)) (m : Nat) : St w W (obP w ok [⟨m, A, c, r⟩] :: L) := by
  have hR : Kd.R (Kd.int .i64) 3 W w.heap.size ok (.slice A r.length c) r := h.get 0 rfl
  refine h.redo1 (o' := obP w ok [⟨m, A, c, r⟩]) 0 rfl (Kept.refl _ _) h.below ⟨fun b hb => ⟨.inl hb, (h.own _ List.mem_cons_self).1 b hb⟩, ⟨fun _ => m, fun p hp => ?_⟩, firmP⟩
  obtain rfl := List.mem_singleton.1 hp
  exact Kd.R_mono hR (fun b hb => ⟨hb, rfl⟩)
theorem St.thin (h : St w W L) (n : Nat) (hn : L[n]? = some (obP w ok D)) (hD : ∀ p ∈ D1, p ∈ D) : St w W (L.set n (obP w ok D1)) := by
  obtain ⟨f, hf⟩ : ∃ f : Nat → Nat, ∀ p ∈ D, Kd.R (Kd.int .i64) 3 W w.heap.size (fun b => ok b ∧ f b = p.k) p.v p.r := h.get n hn
  exact h.redo1 (o' := obP w ok D1) n hn (Kept.refl _ _) h.below ⟨fun b hb => ⟨.inl hb, (h.own _ (List.mem_of_getElem? hn)).1 b hb⟩, ⟨f, fun p hp => hf p (hD p hp)⟩, firmP⟩
theorem St.readP (h : St w W L) (n : Nat) (hn : L[n]? = some (obP w ok D)) {p : Rw} (hp : p ∈ D) : Reads (Kd.int .i64) W p.v p.r := by
  obtain ⟨f, hf⟩ : ∃ f : Nat → Nat, ∀ p ∈ D, Kd.R (Kd.int .i64) 3 W w.heap.size (fun b => ok b ∧ f b = p.k) p.v p.r := h.get n hn
  exact Kd.R_reads (hf p hp)
/-- where a spine lies -/
theorem St.spine (h : St w W L) (n : Nat) (hn : L[n]? = some (obR spK t w ok v ps)) (hp : 0 < ps.length) : ∃ g c, v = .slice (some ⟨g, 0, none⟩) ps.length c ∧ ps.length ≤ c ∧ w.heap.size ≤ g := by
  have hR : Kd.R spK t W w.heap.size ok v ps := h.get n hn
  obtain ⟨g, c, e, hb, _⟩ := Kd.R_form hR hp
  obtain ⟨A, c', e', hl, _⟩ := Kd.R_reads hR
  rw [e] at e'
  injection e' with _ _ e3
  exact ⟨g, c, e, by omega, hb⟩
theorem St.cellP (h : St w W L) (n : Nat) {g c m : Nat} (hn : L[n]? = some (obR spK t w ok (.slice (some ⟨g, 0, none⟩) m c) ps)) (i : Nat) (hi : i < ps.length) : W.cell? ⟨g, i, none⟩ = some ps[i].v ∧ W.frozen? ⟨g, i, none⟩ = false := by
  have hR : Kd.R spK t W w.heap.size ok (.slice (some ⟨g, 0, none⟩) m c) ps := h.get n hn
  have hm : m = ps.length := (Kd.R_reads' hR).1
  have h1 := Kd.R_celln default hR (i : Int) (by omega) (by omega)
  rw [Int.toNat_natCast] at h1
  refine ⟨h1.1.trans ?_, h1.2⟩
  congr 2
  unfold rdOf
  rw [Int.toNat_natCast, List.getD_eq_getElem?_getD, List.getElem?_eq_getElem hi]
  rfl
theorem St.storeP (h : St w W L) (n : Nat) {g c m : Nat} (hn : L[n]? = some (obR spK t w ok (.slice (some ⟨g, 0, none⟩) m c) ps)) (i : Nat) (p : Rw) : St w (W.setCell ⟨g, i, none⟩ p.v) (L.set n (obR spK t w ok (.slice (some ⟨g, 0, none⟩) m c) (ps.set i p))) := by
  have hR : Kd.R spK t W w.heap.size ok (.slice (some ⟨g, 0, none⟩) m c) ps := h.get n hn
  have hw := (h.own _ (List.mem_of_getElem? hn)).1
  have hg : ok g := hR.1 g (by simp [Value.ownBlock])
  have h1 := Kd.R_putg hR (i : Int) p
  rw [Int.toNat_natCast] at h1
  exact h.redo1 (o' := obR spK t w ok (.slice (some ⟨g, 0, none⟩) m c) (ps.set i p)) n hn ⟨h1.2.size, fun k hk hne => h1.2.block k hk (fun e => hne (by cases e; exact hg))⟩ (below_set h.below (hw g hg).1) ⟨fun b hb => ⟨.inl hb, (hw b hb).1, Nat.lt_of_lt_of_le (hw b hb).2 h1.2.size⟩, h1.1, firmR⟩
theorem St.cutP {A : Option Addr} {N c : Nat} (h : St w W L) (n : Nat) (hn : L[n]? = some (obR spK t w ok (.slice A N c) ps)) (k : Nat) (hk : k ≤ ps.length) {qs : List Rw} (hq : ps.take k = qs) : St w W (L.set n (obR spK t w ok (.slice A qs.length c) qs)) := by
  have hR : Kd.R spK t W w.heap.size ok (.slice A N c) ps := h.get n hn
  have h1 := Kd.R_take hR hk
  rw [hq] at h1
  have e : qs.length = k := by rw [← hq, List.length_take]; omega
  rw [e]
  exact h.redo1 (o' := obR spK t w ok (.slice A k c) qs) n hn (Kept.refl _ _) h.below ⟨fun b hb => ⟨.inl hb, (h.own _ (List.mem_of_getElem? hn)).1 b hb⟩, h1, firmR⟩
end
section
variable {ops : Array Oper} {rest : List Oper} {oi : Oper} {a : Act} {Q : Exit → Act → World → Prop} {Kc : Act → World → Prop} {w W : World} {L : List Ob} {ok : Nat → Prop} {v : Value} {ps qs : List Rw}
theorem St.grownP {w1 : World} {v1 : Value} (h : St w W L) (n : Nat) (hn : L[n]? = some (obR spK 22 w ok v ps)) (hR1 : Kd.R spK 22 w1 w.heap.size (fun k => ok k ∨ W.heap.size ≤ k) v1 qs) (hB : Below w.heap.size w w1) (hg : W.grownBy w1 v.ownBlock) : ∃ ok1, St w w1 (L.set n (obR spK 22 w ok1 v1 qs)) := by
  have hR : Kd.R spK 22 W w.heap.size ok v ps := h.get n hn
  exact ⟨_, St.redo1 (o' := obR spK 22 w (fun k => (ok k ∨ W.heap.size ≤ k) ∧ w.heap.size ≤ k ∧ k < w1.heap.size) v1 qs) h n hn ⟨hg.size, fun k hk hne => hg.block k hk (fun e2 => hne (hR.1 k e2.symm))⟩ hB ⟨fun k hk => hk, Kd.R_mono (Kd.R_bound hR1) (fun k hk => ⟨hk.1, hk.2.1, hk.2.2.1⟩), firmR⟩⟩
/-- append(v, row): the slice alone is put there -/
theorem St.addP_step (hw : Region.wanted oi (yielded ops a.tmps) = true) (s y : Operand) (ho : oi.op = .call { callee := .builtin .append, args := #[s, y], argTypes := #[23, 23] }) (p : Rw)
    (h : St w W L) (n : Nat) (hn : L[n]? = some (obR spK 22 w ok v ps)) (hs : a.eval s = v) (hx : a.eval y = .slice (some ⟨W.heap.size, 0, none⟩) 1 1) (hl : (ps.length + 1) * 24 ≤ 140737488355328)
    (hk : ∀ v1 w1 ok1, St w w1 (L.set n (obR spK 22 w ok1 v1 (ps ++ [p]))) → Kc (a.put oi.dst v1) w1) :
    if Region.wanted oi (yielded ops a.tmps) = true then Oper.wp Tryd.prog oi a (W.alloc (.cells #[p.v] 22)) Kc Q else Kc (a.put oi.dst undef) (W.alloc (.cells #[p.v] 22)) := by
  refine Kd.R_append_step spK (w0 := w) w.heap.size hw s y 23 22 (.slice none 0 0) 24 ho Tryd.underlying23 info22 rfl (by decide) (by omega) v ps p [p.v] (fun k => ok k ∨ W.heap.size ≤ k) (fun _ => False) hs hx rfl (fun _ h => h.elim) (fun _ h => .inr h) (Kd.R_mono (h.get n hn) (fun k hk => .inl hk)) h.below h.below.size hl ?_
  intro v1 w1 hR1 hB hg _
  obtain ⟨ok1, h1⟩ := St.grownP h n hn hR1 hB hg
  exact hk v1 w1 ok1 h1
theorem St.addP (hgd : oi.guard = none) (s y : Operand) (ho : oi.op = .call { callee := .builtin .append, args := #[s, y], argTypes := #[23, 23] }) (p : Rw)
    (h : St w W L) (n : Nat) (hn : L[n]? = some (obR spK 22 w ok v ps)) (hs : a.eval s = v) (hx : a.eval y = .slice (some ⟨W.heap.size, 0, none⟩) 1 1) (hl : (ps.length + 1) * 24 ≤ 140737488355328)
    (hk : ∀ v1 w1 ok1, St w w1 (L.set n (obR spK 22 w ok1 v1 (ps ++ [p]))) → wpList Tryd.prog ops Q rest (a.put oi.dst v1) w1) :
    wpList Tryd.prog ops Q (oi :: rest) a (W.alloc (.cells #[p.v] 22)) := by
  refine Kd.R_append spK (w0 := w) w.heap.size hgd s y 23 22 (.slice none 0 0) 24 ho Tryd.underlying23 info22 rfl (by decide) (by omega) v ps p [p.v] (fun k => ok k ∨ W.heap.size ≤ k) (fun _ => False) hs hx rfl (fun _ h => h.elim) (fun _ h => .inr h) (Kd.R_mono (h.get n hn) (fun k hk => .inl hk)) h.below h.below.size hl ?_
  intro v1 w1 hR1 hB hg _
  obtain ⟨ok1, h1⟩ := St.grownP h n hn hR1 hB hg
  exact hk v1 w1 ok1 h1
/-- append(v, rows...) -/
theorem St.manyP_step {A : Option Addr} {m cA : Nat} (hw : Region.wanted oi (yielded ops a.tmps) = true) (s y : Operand) (ho : oi.op = .call { callee := .builtin .append, args := #[s, y], argTypes := #[23, 23] })
    (h : St w W L) (n : Nat) (hn : L[n]? = some (obR spK 22 w ok v ps)) (hs : a.eval s = v) (hx : a.eval y = .slice A m cA) (HR : Kd.C spK W A m qs) (hl : (ps.length + m) * 24 ≤ 140737488355328)
    (hk : ∀ v1 w1 ok1, St w w1 (L.set n (obR spK 22 w ok1 v1 (ps ++ qs))) → Kc (a.put oi.dst v1) w1) :
    if Region.wanted oi (yielded ops a.tmps) = true then Oper.wp Tryd.prog oi a W Kc Q else Kc (a.put oi.dst undef) W := by
  refine Kd.R_append_rows_step spK (Rr := spK.K W) (w0 := w) w.heap.size hw s y 23 22 (.slice none 0 0) 24 ho Tryd.underlying23 info22 rfl (by decide) (by omega) v ps qs A m cA (fun k => ok k ∨ W.heap.size ≤ k) (fun _ => False) hs hx (Kd.R_mono (h.get n hn) (fun k hk => .inl hk)) HR (fun _ _ h => h) (fun _ h => h.elim) (fun _ h => .inr h) h.below h.below.size hl ?_
  intro v1 w1 hR1 hB hg _
  obtain ⟨ok1, h1⟩ := St.grownP h n hn hR1 hB hg
  exact hk v1 w1 ok1 h1
theorem St.manyP {A : Option Addr} {m cA : Nat} (hgd : oi.guard = none) (s y : Operand) (ho : oi.op = .call { callee := .builtin .append, args := #[s, y], argTypes := #[23, 23] })
    (h : St w W L) (n : Nat) (hn : L[n]? = some (obR spK 22 w ok v ps)) (hs : a.eval s = v) (hx : a.eval y = .slice A m cA) (HR : Kd.C spK W A m qs) (hl : (ps.length + m) * 24 ≤ 140737488355328)
    (hk : ∀ v1 w1 ok1, St w w1 (L.set n (obR spK 22 w ok1 v1 (ps ++ qs))) → wpList Tryd.prog ops Q rest (a.put oi.dst v1) w1) :
    wpList Tryd.prog ops Q (oi :: rest) a W := by
  refine Kd.R_append_rows spK (Rr := spK.K W) (w0 := w) w.heap.size hgd s y 23 22 (.slice none 0 0) 24 ho Tryd.underlying23 info22 rfl (by decide) (by omega) v ps qs A m cA (fun k => ok k ∨ W.heap.size ≤ k) (fun _ => False) hs hx (Kd.R_mono (h.get n hn) (fun k hk => .inl hk)) HR (fun _ _ h => h) (fun _ h => h.elim) (fun _ h => .inr h) h.below h.below.size hl ?_
  intro v1 w1 hR1 hB hg _
  obtain ⟨ok1, h1⟩ := St.grownP h n hn hR1 hB hg
  exact hk v1 w1 ok1 h1
/-- a literal of no row: a spine of its own -/
theorem St.nilP {N : Tmp} (hgd : oi.guard = none) (hd : oi.dst = some N) (hrun : (execOp a.eval oi).run Tryd.prog W = .ok (.value (.slice (some ⟨W.heap.size, 0, none⟩) 0 0)) (W.alloc (.cells #[] 22))) (h : St w W L)
    (hk : ∀ g w1 ok1, St w w1 (obR spK 22 w ok1 (.slice (some ⟨g, 0, none⟩) 0 0) [] :: L) → wpList Tryd.prog ops Q rest (a.put oi.dst (.slice (some ⟨g, 0, none⟩) 0 0)) w1) : wpList Tryd.prog ops Q (oi :: rest) a W := by
  have e1 : (W.alloc (.cells #[] 22 (0, 0))).heap.size = W.heap.size + 1 := by show (W.heap.push _).size = _; exact Array.size_push ..
  refine Kd.event_run hgd hrun (hk W.heap.size _ (fun k => k = W.heap.size) (h.add (o := obR spK 22 w (fun k => k = W.heap.size) (.slice (some ⟨W.heap.size, 0, none⟩) 0 0) []) (below_alloc (Below.refl _ _) _) (fun k hk => ?_) ?_ firmR))
  · have h1 : k = W.heap.size := hk
    omega
  · refine ⟨fun k hk => ?_, [], ⟨rfl, .inr ⟨W.heap.size, 0, #[], rfl, h.below.size, ?_, Nat.le_refl _, by unfold maxLen; omega, rfl, rfl⟩⟩, Reps.none _ _⟩
    · simpa [Value.ownBlock] using hk.symm
    · show (W.heap.push _)[W.heap.size]? = _
      exact Array.getElem?_push_size
/-- s[z:], s[:z] of rows -/
theorem cut_rows (A : Option Addr) (n c z : Nat) (h : z ≤ n) (W : World) : (Instr.slice 23 (.slice A n c) (some (.int .i64 (z : Int))) none none).run Tryd.prog W = .ok (.slice (if c = z then A else A.map (·.add z)) (n - z) (c - z)) W := by
  obtain ⟨i, hi, hz⟩ := Option.map_eq_some_iff.1 info22
  simp only [Prod.mk.injEq] at hz
  have := cut_from (P := Tryd.prog) 23 22 .i64 Tryd.underlying23 hi 1 hz.2.1 A n c (z : Int) (by omega) (by omega) W
  simpa using this
theorem take_rows0 (A : Option Addr) (n c z : Nat) (h : z ≤ n) (hc : n ≤ c) (W : World) : (Instr.slice 23 (.slice A n c) none (some (.int .i64 (z : Int))) none).run Tryd.prog W = .ok (.slice A z c) W := by
  obtain ⟨i, hi, hz⟩ := Option.map_eq_some_iff.1 info22
  simp only [Prod.mk.injEq] at hz
  have := (print_take_of (P := Tryd.prog) (Value.int .i64) 0 23 22 .i64 Tryd.underlying23 hi hz.2.1 A c (List.replicate n 0) (z : Int) (by omega) (by simpa using h) (by simpa using hc)).1 W
  simpa [Nat.min_eq_left h] using this
theorem St.readS0 {t : Nat} (h : St w W L) (n : Nat) (hn : L[n]? = some (obR spK t w ok v ps)) : ∃ A c, v = .slice A ps.length c ∧ ps.length ≤ c ∧ Kd.C spK W A ps.length ps := Kd.R_reads (h.get n hn)
end
end Go.Proofs.YthdoglkdcbghpaaDoor.Q

set_option linter.unusedVariables false
set_option linter.unusedSimpArgs false
namespace Go.Proofs.YthdoglkdcbghpaaDoor.Q
open Go.RowKit Go.Proofs.YthdoglkdcbghpaaDoor.F Go.Proofs.YthdoglkdcbghpaaDoorW.PrintWords Go.Proofs.YthdoglkdcbghpaaDoorW.PrintLast Go.Proofs.YthdoglkdcbghpaaDoorW.PrintMore
/-- the state behind the first q neighbors of the i-th word -/
def midW (x : List Int) (i q : Nat) : List (List Int) × List Int := ((waysO ((bfs waysO x i).1.getD i [])).take q).foldl (seen ((bfs waysO x i).2.getD i 0 + 1)) (bfs waysO x i)
section
variable {x : List Int} {i q : Nat}
theorem midW_zero : midW x i 0 = bfs waysO x i := by unfold midW; rw [List.take_zero]; rfl
theorem midW_end (hi : i < (bfs waysO x i).1.length) (hq : (waysO ((bfs waysO x i).1.getD i [])).length ≤ q) : midW x i q = bfs waysO x (i + 1) := by
  unfold midW
  rw [List.take_of_length_le hq]
  show _ = visit waysO (bfs waysO x i) i
  have e : (bfs waysO x i).1.getD i [] = (bfs waysO x i).1[i] := by rw [List.getD_eq_getElem?_getD, List.getElem?_eq_getElem hi]; rfl
  unfold visit
  rw [List.getElem?_eq_getElem hi, e]
theorem midW_succ {z : List Int} (hz : (waysO ((bfs waysO x i).1.getD i []))[q]? = some z) : midW x i (q + 1) = seen ((bfs waysO x i).2.getD i 0 + 1) (midW x i q) z := by
  obtain ⟨hl, e⟩ := List.getElem?_eq_some_iff.1 hz
  unfold midW
  rw [List.take_succ_eq_append_getElem hl, e, List.foldl_append]
  rfl
theorem midW_ok : (midW x i q).1.length = (midW x i q).2.length ∧ (midW x i q).1.Nodup := by
  obtain ⟨⟨h1, h2, _⟩, _⟩ := bfs_met (nb := waysO) (w := x) i
  exact fold_seen_far _ _ _ h1 h2
theorem midW_at (hi : i < (bfs waysO x i).1.length) : (midW x i q).1[i]? = some ((bfs waysO x i).1.getD i []) ∧ (midW x i q).2.getD i 0 = (bfs waysO x i).2.getD i 0 := by
  obtain ⟨⟨a, ha⟩, ⟨b, hb⟩⟩ := fold_seen_grow ((bfs waysO x i).2.getD i 0 + 1) ((waysO ((bfs waysO x i).1.getD i [])).take q) (bfs waysO x i)
  obtain ⟨⟨h1, _⟩, _⟩ := bfs_met (nb := waysO) (w := x) i
  constructor
  · show ((_ : List (List Int) × List Int).1)[i]? = _
    unfold midW
    rw [ha, List.getElem?_append_left hi, List.getElem?_eq_getElem hi, List.getD_eq_getElem?_getD, List.getElem?_eq_getElem hi]
    rfl
  · unfold midW
    rw [hb, List.getD_eq_getElem?_getD, List.getElem?_append_left (by omega), ← List.getD_eq_getElem?_getD]
theorem midW_d (hi : i < (bfs waysO x i).1.length) : 0 ≤ (bfs waysO x i).2.getD i 0 ∧ (bfs waysO x i).2.getD i 0 ≤ (i : Int) := by
  obtain ⟨⟨h1, _⟩, _⟩ := bfs_met (nb := waysO) (w := x) i
  refine bfs_far x i i _ ?_
  rw [List.getD_eq_getElem?_getD, List.getElem?_eq_getElem (by omega)]
  rfl
theorem midW_perm (hi : i < (bfs waysO x i).1.length) : (∀ y ∈ (midW x i q).1, y.Perm x) := by
  have h0 := bfs_perm x i
  have key : ∀ (ns : List (List Int)) (s : List (List Int) × List Int), (∀ y ∈ s.1, y.Perm x) → (∀ y ∈ ns, y.Perm x) → ∀ y ∈ (ns.foldl (seen ((bfs waysO x i).2.getD i 0 + 1)) s).1, y.Perm x := by
    intro ns
    induction ns with
    | nil => intro s h _ y hy; exact h y hy
    | cons z ns ih =>
      intro s h hn
      refine ih _ (fun y hy => ?_) (fun y hy => hn y (List.mem_cons_of_mem _ hy))
      unfold seen at hy
      split at hy
      · exact h y hy
      · rcases List.mem_append.1 hy with hy | hy
        · exact h y hy
        · rw [List.mem_singleton.1 hy]; exact hn z List.mem_cons_self
  refine key _ _ h0 (fun y hy => ?_)
  refine (waysO_perm (List.mem_of_mem_take hy)).trans (h0 _ ?_)
  rw [List.getD_eq_getElem?_getD, List.getElem?_eq_getElem hi]
  exact List.getElem_mem hi
theorem midW_few (hx : x.length ≤ 9) (hi : i < (bfs waysO x i).1.length) : (midW x i q).1.length ≤ 362880 := by
  have h1 : (midW x i q).1.length ≤ factW x.length := by
    rw [← (permsW_length x).1]
    exact nodup_le midW_ok.2 (fun y hy => permsW_mem (midW_perm hi y hy))
  have h2 : ∀ m, m ≤ 9 → factW m ≤ 362880 := by decide
  exact Nat.le_trans h1 (h2 _ hx)
theorem seen_new {d : Int} {s : List (List Int) × List Int} {z : List Int} (h : z ∉ s.1) : seen d s z = (s.1 ++ [z], s.2 ++ [d]) := by unfold seen; rw [if_neg h]
theorem seen_old {d : Int} {s : List (List Int) × List Int} {z : List Int} (h : z ∈ s.1) : seen d s z = s := by unfold seen; rw [if_pos h]
theorem farOf_some {s : List (List Int) × List Int} {z : List Int} : (farOf s z).isSome = decide (z ∈ s.1) := by
  unfold farOf
  by_cases h : z ∈ s.1
  · rw [if_pos h, decide_eq_true h]; rfl
  · rw [if_neg h, decide_eq_false h]; rfl
end
section
variable {w W : World} {L : List Ob} {ok okD : Nat → Prop} {v : Value} {ps D : List Rw} {t e : Nat}
/-- a spine and its pool, read as a list of rows -/
theorem St.readSP (h : St w W L) (i j : Nat) (hi : L[i]? = some (obR spK t w ok v ps)) (hj : L[j]? = some (obP w okD D)) (hD : ∀ p ∈ ps, p ∈ D) : Reads (Kd.slice e (Kd.int .i64)) W v (ps.map Rw.r) := by
  obtain ⟨A, c, rfl, hc, hC⟩ := St.readS0 h i hi
  refine ⟨A, c, by rw [List.length_map], by rw [List.length_map]; exact hc, ?_⟩
  rw [List.length_map]
  refine ⟨by rw [List.length_map], hC.2.1, fun hp => ?_⟩
  obtain ⟨ad, e1, h2⟩ := hC.2.2 hp
  refine ⟨ad, e1, fun m p hm => ?_⟩
  rw [List.getElem?_map] at hm
  obtain ⟨q, hq, rfl⟩ := Option.map_eq_some_iff.1 hm
  obtain ⟨cs, h3, h4, h5⟩ := h2 m q hq
  have h4' : cs = [q.v] := h4
  subst h4'
  obtain ⟨A2, c2, e2, h6, h7⟩ := St.readP h j hj (hD q (List.mem_of_getElem? hq))
  exact ⟨[q.v], rfl, ⟨A2, c2, by rw [e2], h6, h7⟩, h5⟩
end
end Go.Proofs.YthdoglkdcbghpaaDoor.Q

set_option linter.unusedVariables false
set_option linter.unusedSimpArgs false
namespace Go.Proofs.YthdoglkdcbghpaaDoor.Q
open Go.RowKit Go.Proofs.YthdoglkdcbghpaaDoor.F Go.Proofs.YthdoglkdcbghpaaDoorW.PrintWords Go.Proofs.YthdoglkdcbghpaaDoorW.PrintLast Go.Proofs.YthdoglkdcbghpaaDoorW.PrintMore
section
/-- no chain of X is longer than k -/
def Short (r : Int → Int → Prop) (k : Nat) (X : List Int) : Prop := ∀ c : List Int, c.Sublist X → c.Pairwise r → c.length ≤ k
/-- n members of w can be chosen with no chain longer than k -/
def Fit (r : Int → Int → Prop) (k n : Nat) (w : List Int) : Prop := ∃ X, X.Sublist w ∧ X.length = n ∧ Short r k X
theorem pw3 {r : Int → Int → Prop} {a b c : List Int} : (a ++ b ++ c).Pairwise r ↔ a.Pairwise r ∧ b.Pairwise r ∧ c.Pairwise r ∧ (∀ x ∈ a, ∀ y ∈ b, r x y) ∧ (∀ x ∈ a, ∀ y ∈ c, r x y) ∧ (∀ x ∈ b, ∀ y ∈ c, r x y) := by
  rw [List.pairwise_append, List.pairwise_append]
  constructor
  · rintro ⟨⟨h1, h2, h3⟩, h4, h5⟩
    exact ⟨h1, h2, h4, h3, fun x hx y hy => h5 x (List.mem_append_left _ hx) y hy, fun x hx y hy => h5 x (List.mem_append_right _ hx) y hy⟩
  · rintro ⟨h1, h2, h3, h4, h5, h6⟩
    refine ⟨⟨h1, h2, h4⟩, h3, fun x hx y hy => ?_⟩
    rcases List.mem_append.1 hx with h | h
    · exact h5 x h y hy
    · exact h6 x h y hy
theorem sub_split {l a b c : List Int} (h : l.Sublist (a ++ b ++ c)) : ∃ x y z, l = x ++ y ++ z ∧ x.Sublist a ∧ y.Sublist b ∧ z.Sublist c := by
  obtain ⟨p, z, rfl, hp, hz⟩ := List.sublist_append_iff.1 h
  obtain ⟨x, y, rfl, hx, hy⟩ := List.sublist_append_iff.1 hp
  exact ⟨x, y, z, rfl, hx, hy, hz⟩
theorem sub_join {a b c x y z : List Int} (hx : x.Sublist a) (hy : y.Sublist b) (hz : z.Sublist c) : (x ++ y ++ z).Sublist (a ++ b ++ c) := (hx.append hy).append hz
theorem sub2 {a b : Int} {m : List Int} (h : m.Sublist [a, b]) : m = [] ∨ m = [a] ∨ m = [b] ∨ m = [a, b] := by
  cases h <;> rename_i h <;> cases h <;> rename_i h <;> cases h <;> simp
theorem sub3 {a b c : Int} {m : List Int} (h : m.Sublist [a, b, c]) : m = [] ∨ m = [a] ∨ m = [b] ∨ m = [c] ∨ m = [a, b] ∨ m = [a, c] ∨ m = [b, c] ∨ m = [a, b, c] := by
  cases h <;> rename_i h <;> cases h <;> rename_i h <;> cases h <;> rename_i h <;> cases h <;> simp
theorem Short.sub {r : Int → Int → Prop} {k : Nat} {X Y : List Int} (h : Short r k X) (hs : Y.Sublist X) : Short r k Y := fun c hc hp => h c (hc.trans hs) hp
theorem fit_gone {r : Int → Int → Prop} {k n : Nat} {U V : List Int} {y p q : Int} (h5 : ¬ r q p) (h : Fit r k n (U ++ [y, p, q] ++ V)) : Fit r k n (U ++ [y, q, p] ++ V) := by
  obtain ⟨X, hX, hn, hS⟩ := h
  obtain ⟨a, m, b, rfl, ha, hm, hb⟩ := sub_split hX
  have same : m.Sublist [y, q, p] → Fit r k n (U ++ [y, q, p] ++ V) := fun h => ⟨_, sub_join ha h hb, hn, hS⟩
  have swap : ∀ m' : List Int, m'.Sublist [y, q, p] → m'.length = m.length → (∀ d : List Int, d.Sublist m' → d.Pairwise r → d.Sublist m) → Fit r k n (U ++ [y, q, p] ++ V) := fun m' hm' hl hd => by
    refine ⟨a ++ m' ++ b, sub_join ha hm' hb, by simp [← hn, hl], fun c hc hp => ?_⟩
    obtain ⟨x, d, z, rfl, hx, hd', hz⟩ := sub_split hc
    exact hS _ (sub_join hx (hd d hd' (pw3.1 hp).2.1) hz) hp
  rcases sub3 hm with rfl | rfl | rfl | rfl | rfl | rfl | rfl | rfl
  · exact same (by simp)
  · exact same (by simp)
  · exact same (by simp)
  · exact same (by simp)
  · exact same (by simp)
  · exact same (by simp)
  · refine swap [q, p] (by simp) (by simp) fun d hd hp => ?_
    rcases sub2 hd with rfl | rfl | rfl | rfl
    · simp
    · simp
    · simp
    · simp [h5] at hp
  · refine swap [y, q, p] (by simp) (by simp) fun d hd hp => ?_
    rcases sub3 hd with rfl | rfl | rfl | rfl | rfl | rfl | rfl | rfl
    · simp
    · simp
    · simp
    · simp
    · simp
    · simp
    · simp [h5] at hp
    · simp [h5] at hp
theorem fit_made {r : Int → Int → Prop} {k n : Nat} {U V : List Int} {y p q : Int} (ht : ∀ a b c, r a b → r b c → r a c) (h1 : ∀ e, r e p → r e y) (h2 : r y q) (h3 : ∀ e, r y e → r p e) (h4 : ¬ r y p)
    (h : Fit r k n (U ++ [y, q, p] ++ V)) : Fit r k n (U ++ [y, p, q] ++ V) := by
  obtain ⟨X, hX, hn, hS⟩ := h
  obtain ⟨a, m, b, rfl, ha, hm, hb⟩ := sub_split hX
  have same : m.Sublist [y, p, q] → Fit r k n (U ++ [y, p, q] ++ V) := fun h => ⟨_, sub_join ha h hb, hn, hS⟩
  rcases sub3 hm with rfl | rfl | rfl | rfl | rfl | rfl | rfl | rfl
  · exact same (by simp)
  · exact same (by simp)
  · exact same (by simp)
  · exact same (by simp)
  · exact same (by simp)
  · exact same (by simp)
  · -- q and p are chosen, y is not
    by_cases hs : Short r k (a ++ [p, q] ++ b)
    · exact ⟨_, sub_join ha (by simp) hb, by simpa using hn, hs⟩
    · unfold Short at hs
      simp only [Classical.not_forall] at hs
      obtain ⟨c, hc, hp, hk⟩ := hs
      obtain ⟨d1, d2, d3, rfl, hd1, hd2, hd3⟩ := sub_split hc
      have hd : d2 = [p, q] := by
        rcases sub2 hd2 with rfl | rfl | rfl | rfl
        · exact absurd (hS _ (sub_join hd1 (by simp) hd3) hp) hk
        · exact absurd (hS _ (sub_join hd1 (by simp) hd3) hp) hk
        · exact absurd (hS _ (sub_join hd1 (by simp) hd3) hp) hk
        · rfl
      subst hd
      obtain ⟨p1, p2, p3, p4, p5, p6⟩ := pw3.1 hp
      refine ⟨a ++ [y, p] ++ b, sub_join ha (by simp) hb, by simpa using hn, fun c hc' hp' => ?_⟩
      obtain ⟨e1, e2, e3, rfl, he1, he2, he3⟩ := sub_split hc'
      obtain ⟨q1, q2, q3, q4, q5, q6⟩ := pw3.1 hp'
      rcases sub2 he2 with rfl | rfl | rfl | rfl
      · exact hS _ (sub_join he1 (by simp) he3) hp'
      · have s1 := hS (e1 ++ [q] ++ d3) (sub_join he1 (by simp) hd3) (pw3.2 ⟨q1, by simp, p3, fun x hx z hz => by
          obtain rfl : z = q := by simpa using hz
          exact ht _ _ _ (q4 x hx y (by simp)) h2, fun x hx z hz => ht _ _ _ (ht _ _ _ (q4 x hx y (by simp)) h2) (p6 q (by simp) z hz), fun x hx z hz => by
          obtain rfl : x = q := by simpa using hx
          exact p6 x (by simp) z hz⟩)
        have s2 := hS (d1 ++ [p] ++ e3) (sub_join hd1 (by simp) he3) (pw3.2 ⟨p1, by simp, q3, fun x hx z hz => by
          obtain rfl : z = p := by simpa using hz
          exact p4 x hx z (by simp), fun x hx z hz => ht _ _ _ (p4 x hx p (by simp)) (h3 z (q6 y (by simp) z hz)), fun x hx z hz => by
          obtain rfl : x = p := by simpa using hx
          exact h3 z (q6 y (by simp) z hz)⟩)
        simp at s1 s2 hk ⊢
        omega
      · exact hS _ (sub_join he1 (by simp) he3) hp'
      · simp [h4] at q2
  · refine ⟨a ++ [y, p, q] ++ b, sub_join ha (by simp) hb, by simpa using hn, fun c hc hp => ?_⟩
    obtain ⟨x, d, z, rfl, hx, hd, hz⟩ := sub_split hc
    obtain ⟨p1, p2, p3, p4, p5, p6⟩ := pw3.1 hp
    rcases sub3 hd with rfl | rfl | rfl | rfl | rfl | rfl | rfl | rfl
    · exact hS _ (sub_join hx (by simp) hz) hp
    · exact hS _ (sub_join hx (by simp) hz) hp
    · exact hS _ (sub_join hx (by simp) hz) hp
    · exact hS _ (sub_join hx (by simp) hz) hp
    · simp [h4] at p2
    · exact hS _ (sub_join hx (by simp) hz) hp
    · have := hS (x ++ [y, q] ++ z) (sub_join hx (by simp) hz) (pw3.2 ⟨p1, by simpa using h2, p3, fun u hu v hv => by
        have hup := p4 u hu p (by simp)
        rcases (by simpa using hv : v = y ∨ v = q) with rfl | rfl
        · exact h1 u hup
        · exact p4 u hu _ (by simp), p5, fun u hu v hv => by
        rcases (by simpa using hu : u = y ∨ u = q) with rfl | rfl
        · exact ht _ _ _ h2 (p6 q (by simp) v hv)
        · exact p6 _ (by simp) v hv⟩)
      simpa using this
    · simp [h4] at p2
theorem fit_before {r : Int → Int → Prop} {k n : Nat} {U V : List Int} {y p q : Int} (ht : ∀ a b c, r a b → r b c → r a c) (h1 : ∀ e, r e p → r e y) (h2 : r y q) (h3 : ∀ e, r y e → r p e) (h4 : ¬ r y p) (h5 : ¬ r q p) :
    Fit r k n (U ++ [y, q, p] ++ V) ↔ Fit r k n (U ++ [y, p, q] ++ V) := ⟨fit_made ht h1 h2 h3 h4, fit_gone h5⟩
theorem short_reverse {r : Int → Int → Prop} {k : Nat} {X : List Int} (h : Short r k X) : Short (fun a b => r b a) k X.reverse := fun c hc hp => by
  have := h c.reverse (by simpa using hc.reverse) (List.pairwise_reverse.2 hp)
  simpa using this
theorem fit_reverse {r : Int → Int → Prop} {k n : Nat} {w : List Int} : Fit r k n w ↔ Fit (fun a b => r b a) k n w.reverse := by
  constructor
  · rintro ⟨X, h1, h2, h3⟩
    exact ⟨X.reverse, h1.reverse, by simpa using h2, short_reverse h3⟩
  · rintro ⟨X, h1, h2, h3⟩
    exact ⟨X.reverse, by simpa using h1.reverse, by simpa using h2, short_reverse h3⟩
theorem fit_after {r : Int → Int → Prop} {k n : Nat} {U V : List Int} {y p q : Int} (ht : ∀ a b c, r a b → r b c → r a c) (h1 : ∀ e, r q e → r y e) (h2 : r p y) (h3 : ∀ e, r e y → r e q) (h4 : ¬ r q y) (h5 : ¬ r q p) :
    Fit r k n (U ++ [q, p, y] ++ V) ↔ Fit r k n (U ++ [p, q, y] ++ V) := by
  rw [fit_reverse, fit_reverse (w := U ++ [p, q, y] ++ V)]
  have := fit_before (r := fun a b => r b a) (k := k) (n := n) (U := V.reverse) (V := U.reverse) (y := y) (p := q) (q := p) (fun a b c x y => ht _ _ _ y x) h1 h2 h3 h4 h5
  simpa using this
/-- an exchange of Knuth -/
inductive Knuth : List Int → List Int → Prop
  | before (U V : List Int) (x y z : Int) : x < y → y ≤ z → Knuth (U ++ [y, x, z] ++ V) (U ++ [y, z, x] ++ V)
  | after (U V : List Int) (x y z : Int) : x ≤ y → y < z → Knuth (U ++ [x, z, y] ++ V) (U ++ [z, x, y] ++ V)
inductive Eqv : List Int → List Int → Prop
  | refl (w) : Eqv w w
  | step {u v} : Knuth u v → Eqv u v
  | symm {u v} : Eqv u v → Eqv v u
  | trans {u v w} : Eqv u v → Eqv v w → Eqv u w
theorem fit_fall_knuth {u v : List Int} (h : Knuth u v) (k n : Nat) : Fit (fun a b => b < a) k n u ↔ Fit (fun a b => b < a) k n v := by
  cases h with
  | before U V x y z h1 h2 => exact fit_before (p := z) (q := x) (fun _ _ _ _ _ => by omega) (fun _ _ => by omega) h1 (fun _ _ => by omega) (by omega) (by omega)
  | after U V x y z h1 h2 => exact fit_after (p := z) (q := x) (fun _ _ _ _ _ => by omega) (fun _ _ => by omega) h2 (fun _ _ => by omega) (by omega) (by omega)
theorem fit_rise_knuth {u v : List Int} (h : Knuth u v) (k n : Nat) : Fit (fun a b => a ≤ b) k n u ↔ Fit (fun a b => a ≤ b) k n v := by
  cases h with
  | before U V x y z h1 h2 => exact (fit_before (p := x) (q := z) (fun _ _ _ _ _ => by omega) (fun _ _ => by omega) h2 (fun _ _ => by omega) (by omega) (by omega)).symm
  | after U V x y z h1 h2 => exact (fit_after (p := x) (q := z) (fun _ _ _ _ _ => by omega) (fun _ _ => by omega) h1 (fun _ _ => by omega) (by omega) (by omega)).symm
theorem fit_eqv {u v : List Int} (h : Eqv u v) (k n : Nat) : (Fit (fun a b => b < a) k n u ↔ Fit (fun a b => b < a) k n v) ∧ (Fit (fun a b => a ≤ b) k n u ↔ Fit (fun a b => a ≤ b) k n v) := by
  induction h with
  | refl => exact ⟨Iff.rfl, Iff.rfl⟩
  | step h => exact ⟨fit_fall_knuth h k n, fit_rise_knuth h k n⟩
  | symm _ ih => exact ⟨ih.1.symm, ih.2.symm⟩
  | trans _ _ i j => exact ⟨i.1.trans j.1, i.2.trans j.2⟩
theorem Eqv.within {u v : List Int} (h : Eqv u v) (A B : List Int) : Eqv (A ++ u ++ B) (A ++ v ++ B) := by
  induction h with
  | refl => exact .refl _
  | step h =>
    cases h with
    | before U V x y z h1 h2 =>
      have := Knuth.before (A ++ U) (V ++ B) x y z h1 h2
      exact .step (by simpa using this)
    | after U V x y z h1 h2 =>
      have := Knuth.after (A ++ U) (V ++ B) x y z h1 h2
      exact .step (by simpa using this)
  | symm _ ih => exact ih.symm
  | trans _ _ i j => exact i.trans j
end
section
theorem idxFrom_split (p : Int → Bool) (l : List Int) : ∀ k : Nat, (idxFrom p l k < 0 ∧ ∀ e ∈ l, p e = false) ∨ (∃ (A : List Int) (b : Int) (B : List Int), l = A ++ b :: B ∧ (∀ e ∈ A, p e = false) ∧ p b = true ∧ idxFrom p l k = ((k + A.length : Nat) : Int)) := by
  induction l with
  | nil => intro k; exact .inl ⟨by simp [idxFrom], by simp⟩
  | cons x l ih =>
    intro k
    by_cases h : p x = true
    · refine .inr ⟨[], x, l, rfl, by simp, h, ?_⟩
      simp [idxFrom, h]
    · have hx : p x = false := by simpa using h
      rcases ih (k + 1) with ⟨h1, h2⟩ | ⟨A, b, B, h1, h2, h3, h4⟩
      · refine .inl ⟨by simpa [idxFrom, hx] using h1, ?_⟩
        intro e he
        rcases List.mem_cons.1 he with rfl | he
        · exact hx
        · exact h2 e he
      · refine .inr ⟨x :: A, b, B, by simp [h1], ?_, h3, ?_⟩
        · intro e he
          rcases List.mem_cons.1 he with rfl | he
          · exact hx
          · exact h2 e he
        · simp only [idxFrom, hx]
          rw [if_neg (by simp), h4]; simp only [List.length_cons]; omega
theorem bump_split (r : List Int) (x : Int) : (bump r x < 0 ∧ ∀ e ∈ r, e ≤ x) ∨ (∃ (A : List Int) (b : Int) (B : List Int), r = A ++ b :: B ∧ (∀ e ∈ A, e ≤ x) ∧ x < b ∧ bump r x = (A.length : Int)) := by
  rcases idxFrom_split (fun n => decide (x < n)) r 0 with ⟨h1, h2⟩ | ⟨A, b, B, h1, h2, h3, h4⟩
  · exact .inl ⟨h1, fun e he => by have := h2 e he; simpa using this⟩
  · exact .inr ⟨A, b, B, h1, fun e he => by have := h2 e he; simpa using this, by simpa using h3, by unfold bump; simpa using h4⟩
theorem ins_keep {r : List Int} {l : List (List Int)} {x : Int} (h : bump r x < 0) : insRows (r :: l) x = (r ++ [x]) :: l := by simp only [insRows]; rw [if_pos h]
theorem ins_bump {A B : List Int} {b x : Int} {l : List (List Int)} (h : bump (A ++ b :: B) x = (A.length : Int)) : insRows ((A ++ b :: B) :: l) x = (A ++ x :: B) :: insRows l b := by
  simp only [insRows]; rw [if_neg (by omega), h]; simp [rd]
/-- the word that is read from the last row to the first one -/
def readRows : List (List Int) → List Int
  | [] => []
  | r :: l => readRows l ++ r
def Sorted (r : List Int) : Prop := r.Pairwise (fun a b => a ≤ b)
theorem row_left (B : List Int) : ∀ b x : Int, x < b → Sorted (b :: B) → Eqv ((b :: B) ++ [x]) (b :: x :: B) := by
  induction B with
  | nil => intro b x _ _; exact .refl _
  | cons c B ih =>
    intro b x hx hs
    have hs' := List.pairwise_cons.1 hs
    have hbc : b ≤ c := hs'.1 c (by simp)
    have h1 := Eqv.within (ih c x (by omega) hs'.2) [b] []
    have h2 := Eqv.step (Knuth.before [] B x b c hx hbc)
    simp only [List.cons_append, List.nil_append, List.append_nil] at h1 h2 ⊢
    exact h1.trans h2.symm
theorem row_right (A : List Int) (b x : Int) (B : List Int) (hx : x < b) (hA : ∀ e ∈ A, e ≤ x) (hs : Sorted A) : Eqv (A ++ b :: x :: B) (b :: (A ++ x :: B)) := by
  induction A with
  | nil => exact .refl _
  | cons a A ih =>
    have hs' := List.pairwise_cons.1 hs
    have h1 := Eqv.within (ih (fun e he => hA e (List.mem_cons_of_mem _ he)) hs'.2) [a] []
    obtain ⟨h, t, e, ha, hb⟩ : ∃ h t, A ++ x :: B = h :: t ∧ a ≤ h ∧ h < b := by
      cases A with
      | nil => exact ⟨x, B, rfl, hA a (by simp), hx⟩
      | cons c A => exact ⟨c, A ++ x :: B, rfl, hs'.1 c (by simp), by have := hA c (by simp); omega⟩
    have h2 := Eqv.step (Knuth.after [] t a h b ha hb)
    rw [List.cons_append, List.cons_append]
    rw [e] at h1 ⊢
    simp only [List.cons_append, List.nil_append, List.append_nil] at h1 h2 ⊢
    exact h1.trans h2
theorem ins_eqv (l : List (List Int)) : ∀ x, (∀ r ∈ l, Sorted r) → Eqv (readRows l ++ [x]) (readRows (insRows l x)) := by
  induction l with
  | nil => intro x _; exact .refl _
  | cons r l ih =>
    intro x hs
    rcases bump_split r x with ⟨h1, _⟩ | ⟨A, b, B, rfl, h2, h3, h4⟩
    · rw [ins_keep h1]; simp only [readRows, List.append_assoc]; exact .refl _
    · rw [ins_bump h4]
      have hr := hs _ (List.mem_cons_self ..)
      obtain ⟨s1, s2, s3⟩ := List.pairwise_append.1 hr
      have e1 := Eqv.within (row_left B b x h3 s2) (readRows l ++ A) []
      have e2 := Eqv.within (row_right A b x B h3 h2 s1) (readRows l) []
      have e3 := Eqv.within (ih b (fun q hq => hs q (List.mem_cons_of_mem _ hq))) [] (A ++ x :: B)
      simp only [readRows, List.append_assoc, List.cons_append, List.nil_append, List.append_nil] at e1 e2 e3 ⊢
      exact (e1.trans e2).trans e3
/-- each row that follows is shorter or as long, and its numbers are greater -/
def Below2 (R S : List Int) : Prop := S.length ≤ R.length ∧ ∀ i (h : i < S.length) (h' : i < R.length), R[i] < S[i]
def Tabl : List (List Int) → Prop
  | [] => True
  | [r] => Sorted r ∧ r ≠ []
  | r :: s :: l => Sorted r ∧ r ≠ [] ∧ Below2 r s ∧ Tabl (s :: l)
theorem Tabl.tail {r : List Int} {l : List (List Int)} (h : Tabl (r :: l)) : Tabl l := by
  cases l with
  | nil => trivial
  | cons s l => exact h.2.2.2
theorem Tabl.head {r : List Int} {l : List (List Int)} (h : Tabl (r :: l)) : Sorted r ∧ r ≠ [] := by
  cases l with
  | nil => exact h
  | cons s l => exact ⟨h.1, h.2.1⟩
theorem Tabl.next {r s : List Int} {l : List (List Int)} (h : Tabl (r :: s :: l)) : Below2 r s := h.2.2.1
theorem Tabl.mk {r : List Int} {l : List (List Int)} (h1 : Sorted r) (h2 : r ≠ []) (h3 : ∀ s, l.head? = some s → Below2 r s) (h : Tabl l) : Tabl (r :: l) := by
  cases l with
  | nil => exact ⟨h1, h2⟩
  | cons s l => exact ⟨h1, h2, h3 s rfl, h⟩
theorem Tabl.rows {l : List (List Int)} (h : Tabl l) : ∀ r ∈ l, Sorted r ∧ r ≠ [] := by
  induction l with
  | nil => simp
  | cons r l ih =>
    intro q hq
    rcases List.mem_cons.1 hq with rfl | hq
    · exact h.head
    · exact ih h.tail q hq
theorem sorted_append_one {r : List Int} {x : Int} (h : Sorted r) (hx : ∀ e ∈ r, e ≤ x) : Sorted (r ++ [x]) :=
  List.pairwise_append.2 ⟨h, by simp, fun a ha b hb => by obtain rfl : b = x := by simpa using hb
                                                          exact hx a ha⟩
theorem sorted_swap {A B : List Int} {b x : Int} (h : Sorted (A ++ b :: B)) (hA : ∀ e ∈ A, e ≤ x) (hx : x < b) : Sorted (A ++ x :: B) := by
  obtain ⟨s1, s2, s3⟩ := List.pairwise_append.1 h
  obtain ⟨s4, s5⟩ := List.pairwise_cons.1 s2
  refine List.pairwise_append.2 ⟨s1, List.pairwise_cons.2 ⟨fun e he => by have := s4 e he; omega, s5⟩, fun a ha e he => ?_⟩
  rcases List.mem_cons.1 he with rfl | he
  · exact hA a ha
  · exact s3 a ha e (List.mem_cons_of_mem _ he)
/-- the row that b goes into stands below the row that it came from -/
theorem below_step {A B S : List Int} {b x : Int} {l : List (List Int)} (hx : x < b) (hA : ∀ e ∈ A, e ≤ x) (hd : ∀ s, (S :: l).head? = some s → Below2 (A ++ b :: B) s) (s : List Int) (hs : (insRows (S :: l) b).head? = some s) : Below2 (A ++ x :: B) s := by
  obtain ⟨hl, hd⟩ := hd S rfl
  rcases bump_split S b with ⟨h1, h2⟩ | ⟨C, c, D, rfl, h2, h3, h4⟩
  · rw [ins_keep h1] at hs
    obtain rfl : s = S ++ [b] := by simpa using hs.symm
    have hlen : S.length ≤ A.length := by
      rcases Nat.lt_or_ge A.length S.length with h | h
      · have := hd A.length h (by simp)
        have h5 := h2 _ (List.getElem_mem h)
        simp at this
        omega
      · exact h
    refine ⟨by simp only [List.length_append, List.length_cons, List.length_nil]; omega, fun i hi hi' => ?_⟩
    simp at hi
    rcases Nat.lt_or_ge i S.length with h | h
    · rw [List.getElem_append_left h, List.getElem_append_left (by omega)]
      have := hd i h (by simp; omega)
      rw [List.getElem_append_left (by omega)] at this
      exact this
    · have hii : i = S.length := by omega
      subst hii
      rw [show (S ++ [b])[S.length]'(by simp) = b by simp]
      rcases Nat.lt_or_ge S.length A.length with h6 | h6
      · rw [List.getElem_append_left h6]
        have := hA _ (List.getElem_mem h6)
        omega
      · rw [List.getElem_append_right h6]
        have : S.length - A.length = 0 := by omega
        simp only [this, List.getElem_cons_zero]
        exact hx
  · rw [ins_bump h4] at hs
    obtain rfl : s = C ++ b :: D := by simpa using hs.symm
    have hlen : C.length ≤ A.length := by
      rcases Nat.lt_or_ge A.length C.length with h | h
      · have := hd A.length (by simp; omega) (by simp)
        rw [List.getElem_append_left h] at this
        have h5 := h2 _ (List.getElem_mem h)
        simp at this
        omega
      · exact h
    refine ⟨by simpa using hl, fun i hi hi' => ?_⟩
    have hup : (A ++ x :: B)[i] ≤ (A ++ b :: B)[i]'(by simpa using hi') := by
      rcases Nat.lt_trichotomy i A.length with h | h | h
      · rw [List.getElem_append_left h, List.getElem_append_left h]; omega
      · subst h; simp; omega
      · rw [List.getElem_append_right (by omega), List.getElem_append_right (by omega)]
        obtain ⟨m, hm⟩ : ∃ m, i - A.length = m + 1 := ⟨i - A.length - 1, by omega⟩
        simp [hm]
    rcases Nat.lt_trichotomy i C.length with h | h | h
    · have := hd i (by simp; omega) (by simpa using hi')
      rw [List.getElem_append_left h] at this ⊢
      omega
    · subst h
      rw [show (C ++ b :: D)[C.length]'(by simp) = b by simp]
      rcases Nat.lt_or_ge C.length A.length with h6 | h6
      · rw [List.getElem_append_left h6]
        have := hA _ (List.getElem_mem h6)
        omega
      · rw [List.getElem_append_right h6]
        have : C.length - A.length = 0 := by omega
        simp only [this, List.getElem_cons_zero]
        exact hx
    · have := hd i (by simpa using hi) (by simpa using hi')
      have e : (C ++ b :: D)[i] = (C ++ c :: D)[i]'(by simpa using hi) := by
        rw [List.getElem_append_right (by omega), List.getElem_append_right (by omega)]
        obtain ⟨m, hm⟩ : ∃ m, i - C.length = m + 1 := ⟨i - C.length - 1, by omega⟩
        simp [hm]
      rw [e]; omega
theorem ins_tabl (l : List (List Int)) : ∀ x, Tabl l → Tabl (insRows l x) := by
  induction l with
  | nil => intro x _; exact ⟨by simp [Sorted], by simp⟩
  | cons r l ih =>
    intro x ht
    obtain ⟨hs, hne⟩ := ht.head
    rcases bump_split r x with ⟨h1, h2⟩ | ⟨A, b, B, rfl, h2, h3, h4⟩
    · rw [ins_keep h1]
      refine Tabl.mk (sorted_append_one hs h2) (by simp) (fun s h => ?_) ht.tail
      cases l with
      | nil => simp at h
      | cons s' l =>
        obtain rfl : s' = s := by simpa using h
        obtain ⟨g1, g2⟩ := ht.next
        refine ⟨by simp; omega, fun i hi hi' => ?_⟩
        rw [List.getElem_append_left (by omega)]
        exact g2 i hi (by omega)
    · rw [ins_bump h4]
      refine Tabl.mk (sorted_swap hs h2 h3) (by simp) (fun s h => ?_) (ih b ht.tail)
      cases l with
      | nil =>
        obtain rfl : [b] = s := by simpa [insRows] using h
        refine ⟨by simp only [List.length_append, List.length_cons, List.length_nil]; omega, fun i hi hi' => ?_⟩
        simp at hi; subst hi
        simp only [List.getElem_cons_zero]
        cases A with
        | nil => simpa using h3
        | cons a A => have := h2 a (by simp); simp; omega
      | cons s' l =>
        refine below_step h3 h2 (fun q hq => ?_) s h
        rw [List.head?_cons] at hq
        injection hq with hq
        exact hq ▸ ht.next
theorem insAll_append (w : List Int) (x : Int) : insAll (w ++ [x]) = insRows (insAll w) x := by simp [insAll]
theorem insAll_tabl (w : List Int) : Tabl (insAll w) := by
  suffices h : ∀ (w : List Int) (t : List (List Int)), Tabl t → Tabl (w.foldl insRows t) from h w [] trivial
  intro w
  induction w with
  | nil => intro t h; exact h
  | cons x w ih => intro t h; exact ih _ (ins_tabl t x h)
theorem insAll_eqv (w : List Int) : Eqv w (readRows (insAll w)) := by
  suffices h : ∀ (w : List Int) (t : List (List Int)), Tabl t → Eqv (readRows t ++ w) (readRows (w.foldl insRows t)) from h w [] trivial
  intro w
  induction w with
  | nil => intro t _; simp; exact .refl _
  | cons x w ih =>
    intro t h
    have h1 := Eqv.within (ins_eqv t x (fun r hr => (h.rows r hr).1)) [] w
    have h2 := ih _ (ins_tabl t x h)
    simp only [List.nil_append, List.append_assoc] at h1
    exact h1.trans h2
end
section
/-- the first column, read upwards -/
def colOf : List (List Int) → List Int
  | [] => []
  | r :: l => colOf l ++ r.take 1
def Tab0 : List (List Int) → Prop
  | [] => True
  | [r] => Sorted r
  | r :: s :: l => Sorted r ∧ Below2 r s ∧ Tab0 (s :: l)
theorem Tabl.weak : ∀ {l : List (List Int)}, Tabl l → Tab0 l
  | [], _ => trivial
  | [_], h => h.1
  | _ :: _ :: _, h => ⟨h.1, h.2.2.1, Tabl.weak h.2.2.2⟩
theorem Tab0.tail {r : List Int} {l : List (List Int)} (h : Tab0 (r :: l)) : Tab0 l := by
  cases l with
  | nil => trivial
  | cons s l => exact h.2.2
theorem Tab0.head {r : List Int} {l : List (List Int)} (h : Tab0 (r :: l)) : Sorted r := by
  cases l with
  | nil => exact h
  | cons s l => exact h.1
theorem Tab0.rows {l : List (List Int)} (h : Tab0 l) : ∀ r ∈ l, Sorted r := by
  induction l with
  | nil => simp
  | cons r l ih =>
    intro q hq
    rcases List.mem_cons.1 hq with rfl | hq
    · exact h.head
    · exact ih h.tail q hq
theorem Tab0.above {l : List (List Int)} : ∀ {r : List Int}, Tab0 (r :: l) → ∀ e ∈ colOf l, ∃ a, r.head? = some a ∧ a < e := by
  induction l with
  | nil => intro r _ e he; simp [colOf] at he
  | cons s l ih =>
    intro r h e he
    obtain ⟨g1, g2⟩ := h.2.1
    have first : ∀ b, s.head? = some b → ∃ a, r.head? = some a ∧ a < b := by
      intro b hb
      cases s with
      | nil => simp at hb
      | cons b' s =>
        obtain rfl : b' = b := by simpa using hb
        cases r with
        | nil => simp at g1
        | cons a r => exact ⟨a, rfl, g2 0 (by simp) (by simp)⟩
    rcases List.mem_append.1 he with he | he
    · obtain ⟨b, hb, hbe⟩ := ih h.2.2 e he
      obtain ⟨a, ha, hab⟩ := first b hb
      exact ⟨a, ha, by omega⟩
    · cases s with
      | nil => simp at he
      | cons b s =>
        obtain rfl : e = b := by simpa using he
        exact first e rfl
theorem col_falls {l : List (List Int)} (h : Tab0 l) : (colOf l).Pairwise (fun a b => b < a) := by
  induction l with
  | nil => simp [colOf]
  | cons r l ih =>
    refine List.pairwise_append.2 ⟨ih h.tail, ?_, fun e he a ha => ?_⟩
    · cases r <;> simp
    · obtain ⟨b, hb, hbe⟩ := h.above e he
      cases r with
      | nil => simp at ha
      | cons c r =>
        obtain rfl : a = c := by simpa using ha
        obtain rfl : a = b := by simpa using hb
        exact hbe
theorem Tab0.tails : ∀ {l : List (List Int)}, Tab0 l → Tab0 (l.map List.tail)
  | [], _ => trivial
  | [r], h => h.sublist (List.tail_sublist r)
  | r :: s :: l, h => by
    refine ⟨h.1.sublist (List.tail_sublist r), ⟨?_, fun i hi hi' => ?_⟩, Tab0.tails (l := s :: l) h.2.2⟩
    · have := h.2.1.1
      simp only [List.length_tail]; omega
    · simp only [List.length_tail] at hi hi'
      rw [List.getElem_tail, List.getElem_tail]
      exact h.2.1.2 (i + 1) (by omega) (by omega)
theorem read_split : ∀ (l : List (List Int)) (X : List Int), X.Sublist (readRows l) → ∃ C X' : List Int, C.Sublist X ∧ C.Sublist (colOf l) ∧ X'.Sublist X ∧ X'.Sublist (readRows (l.map List.tail)) ∧ X.length = C.length + X'.length
  | [], X, h => by
    obtain rfl : X = [] := by simpa [readRows] using h
    exact ⟨[], [], by simp, by simp, by simp, by simp, rfl⟩
  | r :: l, X, h => by
    obtain ⟨X1, X2, rfl, h1, h2⟩ := List.sublist_append_iff.1 h
    obtain ⟨C, Y, c1, c2, c3, c4, c5⟩ := read_split l X1 h1
    have plain : X2.Sublist r.tail → ∃ C X' : List Int, C.Sublist (X1 ++ X2) ∧ C.Sublist (colOf (r :: l)) ∧ X'.Sublist (X1 ++ X2) ∧ X'.Sublist (readRows ((r :: l).map List.tail)) ∧ (X1 ++ X2).length = C.length + X'.length := fun h3 =>
      ⟨C, Y ++ X2, c1.trans (List.sublist_append_left ..), c2.trans (List.sublist_append_left ..), c3.append (List.Sublist.refl _), c4.append h3, by simp only [List.length_append]; omega⟩
    cases r with
    | nil => exact plain (by simpa using h2)
    | cons a r =>
      cases h2 with
      | cons _ h3 => exact plain h3
      | cons_cons _ h3 =>
        rename_i t
        refine ⟨C ++ [a], Y ++ t, c1.append (by simp), c2.append (by simp), c3.append (by simp), c4.append h3, by simp only [List.length_append, List.length_cons, List.length_nil]; omega⟩
/-- the numbers in the first k rows -/
def firstRows (k : Nat) (l : List (List Int)) : Nat := ((l.take k).map List.length).sum
/-- the numbers in the first k columns -/
def firstCols (k : Nat) (l : List (List Int)) : Nat := (l.map fun r => min k r.length).sum
theorem firstRows_tails : ∀ (k : Nat) (l : List (List Int)), firstRows k (l.map List.tail) ≤ firstRows k l
  | 0, _ => by simp [firstRows]
  | _ + 1, [] => by simp [firstRows]
  | k + 1, r :: l => by
    have := firstRows_tails k l
    simp only [firstRows, List.map_cons, List.take_succ_cons, List.sum_cons, List.length_tail] at this ⊢
    omega
theorem firstRows_col : ∀ (k : Nat) (l : List (List Int)), Tab0 l → min k (colOf l).length + firstRows k (l.map List.tail) ≤ firstRows k l
  | 0, _, _ => by simp [firstRows]
  | _ + 1, [], _ => by simp [firstRows, colOf]
  | k + 1, r :: l, h => by
    cases r with
    | nil =>
      have h0 : colOf l = [] := by
        cases hc : colOf l with
        | nil => rfl
        | cons e t =>
          obtain ⟨a, ha, _⟩ := h.above e (by rw [hc]; simp)
          simp at ha
      have h1 := firstRows_tails (k + 1) ([] :: l)
      simp only [colOf, h0, List.take_nil, List.append_nil, List.length_nil]
      omega
    | cons a r =>
      have := firstRows_col k l h.tail
      simp only [firstRows, List.map_cons, List.take_succ_cons, List.sum_cons, List.length_tail, List.length_cons, colOf, List.take_zero, List.length_append, List.length_nil] at this ⊢
      omega
theorem rises_le : ∀ (n : Nat) (l : List (List Int)), (∀ r ∈ l, r.length ≤ n) → Tab0 l → ∀ (X : List Int) (k : Nat), X.Sublist (readRows l) → Short (fun a b => b < a) k X → X.length ≤ firstRows k l
  | 0, l, hn, ht, X, k, hX, _ => by
    have : readRows l = [] := by
      clear hX ht
      induction l with
      | nil => rfl
      | cons r l ih =>
        have h1 := hn r (by simp)
        obtain rfl : r = [] := List.length_eq_zero_iff.1 (by omega)
        simp only [readRows, List.append_nil]
        exact ih (fun r hr => hn r (List.mem_cons_of_mem _ hr))
    rw [this] at hX
    obtain rfl : X = [] := by simpa using hX
    simp
  | n + 1, l, hn, ht, X, k, hX, hS => by
    obtain ⟨C, Y, c1, c2, c3, c4, c5⟩ := read_split l X hX
    have h1 := hS C c1 ((col_falls ht).sublist c2)
    have h2 := c2.length_le
    have h3 := rises_le n (l.map List.tail) (fun r hr => by
      obtain ⟨q, hq, rfl⟩ := List.mem_map.1 hr
      have := hn q hq
      simp only [List.length_tail]; omega) ht.tails Y k c4 (hS.sub c3)
    have h4 := firstRows_col k l ht
    omega
theorem chain_rows : ∀ (l : List (List Int)), (∀ r ∈ l, Sorted r) → ∀ c : List Int, c.Sublist (readRows l) → c.Pairwise (fun a b => b < a) → c.length ≤ l.length
  | [], _, c, hc, _ => by
    obtain rfl : c = [] := by simpa [readRows] using hc
    simp
  | r :: l, hs, c, hc, hp => by
    obtain ⟨a, b, rfl, ha, hb⟩ := List.sublist_append_iff.1 hc
    obtain ⟨p1, p2, _⟩ := List.pairwise_append.1 hp
    have h1 := chain_rows l (fun r hr => hs r (List.mem_cons_of_mem _ hr)) a ha p1
    have h2 : b.length ≤ 1 := by
      have hs2 := (hs r (by simp)).sublist hb
      match b, p2, hs2 with
      | [], _, _ => simp
      | [_], _, _ => simp
      | x :: y :: _, p, s =>
        have h3 := (List.pairwise_cons.1 p).1 y (by simp)
        have h4 := (List.pairwise_cons.1 s).1 y (by simp)
        omega
    simp only [List.length_append, List.length_cons]; omega
theorem read_append : ∀ a b : List (List Int), readRows (a ++ b) = readRows b ++ readRows a
  | [], b => by simp [readRows]
  | r :: a, b => by simp only [List.cons_append, readRows, read_append a b, List.append_assoc]
theorem read_length : ∀ l : List (List Int), (readRows l).length = (l.map List.length).sum
  | [] => rfl
  | r :: l => by simp only [readRows, List.length_append, read_length l, List.map_cons, List.sum_cons]; omega
theorem rises_ge (l : List (List Int)) (hs : ∀ r ∈ l, Sorted r) (k : Nat) : Fit (fun a b => b < a) k (firstRows k l) (readRows l) := by
  refine ⟨readRows (l.take k), ?_, read_length _, fun c hc hp => ?_⟩
  · have := read_append (l.take k) (l.drop k)
    rw [List.take_append_drop] at this
    rw [this]
    exact List.sublist_append_right ..
  · have := chain_rows (l.take k) (fun r hr => hs r (List.mem_of_mem_take hr)) c hc hp
    have h2 : (l.take k).length ≤ k := by rw [List.length_take]; omega
    omega
theorem falls_le : ∀ (l : List (List Int)), (∀ r ∈ l, Sorted r) → ∀ (X : List Int) (k : Nat), X.Sublist (readRows l) → Short (fun a b => a ≤ b) k X → X.length ≤ firstCols k l
  | [], _, X, k, hX, _ => by
    obtain rfl : X = [] := by simpa [readRows] using hX
    simp
  | r :: l, hs, X, k, hX, hS => by
    obtain ⟨a, b, rfl, ha, hb⟩ := List.sublist_append_iff.1 hX
    have h1 := falls_le l (fun r hr => hs r (List.mem_cons_of_mem _ hr)) a k ha (hS.sub (List.sublist_append_left ..))
    have h2 := hS b (List.sublist_append_right ..) ((hs r (by simp)).sublist hb)
    have h3 := hb.length_le
    simp only [firstCols, List.map_cons, List.sum_cons, List.length_append] at h1 ⊢
    omega
theorem cols_chain : ∀ (k : Nat) (l : List (List Int)), Tab0 l → ∀ c : List Int, c.Sublist (readRows (l.map (List.take k))) → c.Pairwise (fun a b => a ≤ b) → c.length ≤ k
  | 0, l, _, c, hc, _ => by
    have : readRows (l.map (List.take 0)) = [] := by
      clear hc
      induction l with
      | nil => rfl
      | cons r l ih => rename_i h; simp only [List.map_cons, readRows, List.take_zero, List.append_nil]; exact ih h.tail
    rw [this] at hc
    obtain rfl : c = [] := by simpa using hc
    simp
  | k + 1, l, h, c, hc, hp => by
    obtain ⟨C, Y, c1, c2, c3, c4, c5⟩ := read_split _ c hc
    have e1 : colOf (l.map (List.take (k + 1))) = colOf l := by
      clear hc h c1 c2 c3 c4
      induction l with
      | nil => rfl
      | cons r l ih => simp only [List.map_cons, colOf, ih, List.take_take]; rw [Nat.min_eq_left (by omega)]
    have e2 : (l.map (List.take (k + 1))).map List.tail = (l.map List.tail).map (List.take k) := by
      simp only [List.map_map]
      congr 1
      funext r
      cases r <;> simp
    rw [e1] at c2
    rw [e2] at c4
    have h1 := cols_chain k (l.map List.tail) h.tails Y c4 (hp.sublist c3)
    have h2 : C.length ≤ 1 := by
      have p1 := hp.sublist c1
      have p2 := (col_falls h).sublist c2
      match C, p1, p2 with
      | [], _, _ => simp
      | [_], _, _ => simp
      | x :: y :: _, p, s =>
        have h3 := (List.pairwise_cons.1 p).1 y (by simp)
        have h4 := (List.pairwise_cons.1 s).1 y (by simp)
        omega
    omega
theorem falls_ge (l : List (List Int)) (h : Tab0 l) (k : Nat) : Fit (fun a b => a ≤ b) k (firstCols k l) (readRows l) := by
  refine ⟨readRows (l.map (List.take k)), ?_, ?_, fun c hc hp => cols_chain k l h c hc hp⟩
  · clear h
    induction l with
    | nil => exact List.Sublist.refl _
    | cons r l ih => exact ih.append (List.take_sublist ..)
  · rw [read_length, firstCols, List.map_map]
    congr 2
    funext r
    simp
/-- Greene's theorem: the most numbers with no fall longer than k are those in the first k rows. -/
theorem greene_rise (w : List Int) (k : Nat) : Fit (fun a b => b < a) k (firstRows k (insAll w)) w ∧ ∀ n, Fit (fun a b => b < a) k n w → n ≤ firstRows k (insAll w) := by
  have ht := (insAll_tabl w).weak
  refine ⟨(fit_eqv (insAll_eqv w) k _).1.2 (rises_ge _ ht.rows k), fun n hn => ?_⟩
  obtain ⟨X, h1, rfl, h3⟩ := (fit_eqv (insAll_eqv w) k n).1.1 hn
  refine rises_le ((insAll w).map List.length).sum _ (fun r hr => ?_) ht X k h1 h3
  have : ∀ (l : List (List Int)), r ∈ l → r.length ≤ (l.map List.length).sum := by
    intro l
    induction l with
    | nil => simp
    | cons q l ih =>
      intro h
      simp only [List.map_cons, List.sum_cons]
      rcases List.mem_cons.1 h with rfl | h
      · omega
      · have := ih h; omega
  exact this _ hr
/-- The most numbers with no rise longer than k are those in the first k columns. -/
theorem greene_fall (w : List Int) (k : Nat) : Fit (fun a b => a ≤ b) k (firstCols k (insAll w)) w ∧ ∀ n, Fit (fun a b => a ≤ b) k n w → n ≤ firstCols k (insAll w) := by
  have ht := (insAll_tabl w).weak
  refine ⟨(fit_eqv (insAll_eqv w) k _).2.2 (falls_ge _ ht k), fun n hn => ?_⟩
  obtain ⟨X, h1, rfl, h3⟩ := (fit_eqv (insAll_eqv w) k n).2.1 hn
  exact falls_le _ ht.rows X k h1 h3
end
end Go.Proofs.YthdoglkdcbghpaaDoor.Q

set_option linter.unusedVariables false
set_option linter.unusedSimpArgs false
namespace Go.Proofs.YthdoglkdcbghpaaDoor.Q
open Go.RowKit Go.Proofs.YthdoglkdcbghpaaDoor.F Go.Proofs.YthdoglkdcbghpaaDoorW.PrintWords Go.Proofs.YthdoglkdcbghpaaDoorW.PrintLast Go.Proofs.YthdoglkdcbghpaaDoorW.PrintMore
section
/-- the numbers up to k -/
def uptoK (k : Int) (l : List Int) : List Int := l.filter (fun x => decide (x ≤ k))
theorem uptoK_append (k : Int) (a b : List Int) : uptoK k (a ++ b) = uptoK k a ++ uptoK k b := List.filter_append ..
theorem uptoK_in {k x : Int} (l : List Int) (h : x ≤ k) : uptoK k (x :: l) = x :: uptoK k l := by unfold uptoK; rw [List.filter_cons, if_pos (by simpa using h)]
theorem uptoK_out {k x : Int} (l : List Int) (h : k < x) : uptoK k (x :: l) = uptoK k l := by unfold uptoK; rw [List.filter_cons, if_neg (by simp only [decide_eq_true_eq]; omega)]
theorem uptoK_all {k : Int} {l : List Int} (h : ∀ e ∈ l, e ≤ k) : uptoK k l = l := by unfold uptoK; exact List.filter_eq_self.2 (fun e he => by simpa using h e he)
theorem uptoK_none {k : Int} {l : List Int} (h : ∀ e ∈ l, k < e) : uptoK k l = [] := by unfold uptoK; exact List.filter_eq_nil_iff.2 (fun e he => by have := h e he; simp only [decide_eq_true_eq]; omega)
theorem uptoK_eq_nil {k : Int} {l : List Int} (h : uptoK k l = []) : ∀ e ∈ l, k < e := fun e he => by have := List.filter_eq_nil_iff.1 h e he; simp only [decide_eq_true_eq] at this; omega
theorem knuth_uptoK {u v : List Int} (k : Int) (h : Knuth u v) : Eqv (uptoK k u) (uptoK k v) := by
  cases h with
  | before U V x y z h1 h2 =>
    simp only [uptoK_append]
    by_cases hz : z ≤ k
    · rw [uptoK_all (l := [y, x, z]) (by simp; omega), uptoK_all (l := [y, z, x]) (by simp; omega)]
      exact .step (.before _ _ x y z h1 h2)
    · have e : uptoK k [y, x, z] = uptoK k [y, z, x] := by
        have e1 : uptoK k [y, x, z] = uptoK k [y, x] := by
          rw [show [y, x, z] = [y, x] ++ [z] from rfl, uptoK_append, uptoK_out _ (by omega : k < z)]; simp [uptoK]
        have e2 : uptoK k [y, z, x] = uptoK k [y, x] := by
          rw [show [y, z, x] = [y] ++ z :: [x] from rfl, uptoK_append, uptoK_out _ (by omega : k < z), ← uptoK_append]; rfl
        rw [e1, e2]
      rw [e]
      exact .refl _
  | after U V x y z h1 h2 =>
    simp only [uptoK_append]
    by_cases hz : z ≤ k
    · rw [uptoK_all (l := [x, z, y]) (by simp; omega), uptoK_all (l := [z, x, y]) (by simp; omega)]
      exact .step (.after _ _ x y z h1 h2)
    · have e : uptoK k [x, z, y] = uptoK k [z, x, y] := by
        have e1 : uptoK k [x, z, y] = uptoK k [x, y] := by
          rw [show [x, z, y] = [x] ++ z :: [y] from rfl, uptoK_append, uptoK_out _ (by omega : k < z), ← uptoK_append]; rfl
        rw [e1, uptoK_out _ (by omega : k < z)]
      rw [e]
      exact .refl _
theorem eqv_uptoK {u v : List Int} (k : Int) (h : Eqv u v) : Eqv (uptoK k u) (uptoK k v) := by
  induction h with
  | refl u => exact .refl _
  | step h => exact knuth_uptoK k h
  | symm _ ih => exact ih.symm
  | trans _ _ ih1 ih2 => exact ih1.trans ih2
/-- rows cut to the numbers up to k -/
def CutTo (k : Int) : List (List Int) → List (List Int) → Prop
  | [], l' => l' = []
  | r :: l, [] => uptoK k r = [] ∧ CutTo k l []
  | r :: l, r' :: l' => r' = uptoK k r ∧ CutTo k l l'
theorem bump_at {A B : List Int} {b x : Int} (hA : ∀ e ∈ A, e ≤ x) (hb : x < b) : bump (A ++ b :: B) x = (A.length : Int) := by
  rcases bump_split (A ++ b :: B) x with ⟨_, h⟩ | ⟨A', b', B', h1, h2, h3, h4⟩
  · have := h b (by simp); omega
  · rw [h4]
    rcases List.append_eq_append_iff.1 h1 with ⟨C, e1, e2⟩ | ⟨C, e1, e2⟩
    · cases C with
      | nil => rw [e1, List.append_nil]
      | cons c C =>
        rw [List.cons_append] at e2
        injection e2 with e2 _
        have := h2 c (by rw [e1]; simp)
        omega
    · cases C with
      | nil => rw [e1, List.append_nil]
      | cons c C =>
        rw [List.cons_append] at e2
        injection e2 with e2 _
        have := hA c (by rw [e1]; simp)
        omega
theorem bump_no {r : List Int} {x : Int} (h : ∀ e ∈ r, e ≤ x) : bump r x < 0 := by
  rcases bump_split r x with ⟨h1, _⟩ | ⟨A, b, B, rfl, _, h3, _⟩
  · exact h1
  · have := h b (by simp); omega
theorem ins_cut_big {k : Int} : ∀ (l l' : List (List Int)) (x : Int), k < x → CutTo k l l' → CutTo k (insRows l x) l'
  | [], l', x, hx, h => by
    have h : l' = [] := h
    subst h
    exact ⟨uptoK_none (by simpa using hx), rfl⟩
  | r :: l, l', x, hx, h => by
    rcases bump_split r x with ⟨h1, h2⟩ | ⟨A, b, B, rfl, h2, h3, h4⟩
    · rw [ins_keep h1]
      have e : uptoK k (r ++ [x]) = uptoK k r := by rw [uptoK_append, uptoK_out _ hx]; simp [uptoK]
      cases l' with
      | nil => exact ⟨e.trans h.1, h.2⟩
      | cons r' l' => exact ⟨h.1.trans e.symm, h.2⟩
    · rw [ins_bump h4]
      have e : uptoK k (A ++ x :: B) = uptoK k (A ++ b :: B) := by rw [uptoK_append, uptoK_append, uptoK_out _ hx, uptoK_out _ (by omega : k < b)]
      cases l' with
      | nil => exact ⟨e.trans h.1, ins_cut_big l [] b (by omega) h.2⟩
      | cons r' l' => exact ⟨h.1.trans e.symm, ins_cut_big l l' b (by omega) h.2⟩
theorem ins_cut_small {k : Int} : ∀ (l l' : List (List Int)) (x : Int), (∀ r ∈ l, Sorted r) → x ≤ k → CutTo k l l' → CutTo k (insRows l x) (insRows l' x)
  | [], l', x, _, hx, h => by
    have h : l' = [] := h
    subst h
    exact ⟨(uptoK_all (by simpa using hx)).symm, rfl⟩
  | r :: l, [], x, hs, hx, h => by
    obtain ⟨h5, h6⟩ := h
    have hn := uptoK_eq_nil h5
    rcases bump_split r x with ⟨h1, h2⟩ | ⟨A, b, B, rfl, h2, h3, h4⟩
    · have hr : r = [] := by
        cases r with
        | nil => rfl
        | cons e r => have := hn e (by simp); have := h2 e (by simp); omega
      subst hr
      rw [ins_keep h1]
      exact ⟨(uptoK_all (by simpa using hx)).symm, h6⟩
    · rw [ins_bump h4]
      have hA : A = [] := by
        cases A with
        | nil => rfl
        | cons e A => have := hn e (by simp); have := h2 e (by simp); omega
      subst hA
      refine ⟨?_, ins_cut_big l [] b (hn b (by simp)) h6⟩
      show [x] = uptoK k ([] ++ x :: B)
      rw [List.nil_append, uptoK_in _ hx, uptoK_none (fun e he => hn e (by simp [he]))]
  | r :: l, r' :: l', x, hs, hx, h => by
    obtain ⟨rfl, h6⟩ := h
    have hsr := hs r (by simp)
    rcases bump_split r x with ⟨h1, h2⟩ | ⟨A, b, B, rfl, h2, h3, h4⟩
    · have h9 : bump (uptoK k r) x < 0 := bump_no (fun e he => h2 e (List.mem_filter.1 he).1)
      rw [ins_keep h1, ins_keep h9]
      exact ⟨by rw [uptoK_append, uptoK_all (l := [x]) (by simpa using hx)], h6⟩
    · rw [ins_bump h4]
      have eA : uptoK k A = A := uptoK_all (fun e he => by have := h2 e he; omega)
      by_cases hb : b ≤ k
      · have e : uptoK k (A ++ b :: B) = A ++ b :: uptoK k B := by rw [uptoK_append, eA, uptoK_in _ hb]
        rw [e, ins_bump (bump_at h2 h3)]
        exact ⟨by rw [uptoK_append, eA, uptoK_in _ hx], ins_cut_small l l' b (fun q hq => hs q (by simp [hq])) hb h6⟩
      · obtain ⟨_, s2, _⟩ := List.pairwise_append.1 hsr
        have s4 := (List.pairwise_cons.1 s2).1
        have eB : uptoK k B = [] := uptoK_none (fun e he => by have := s4 e he; omega)
        have e : uptoK k (A ++ b :: B) = A := by rw [uptoK_append, eA, uptoK_out _ (by omega), eB, List.append_nil]
        rw [e, ins_keep (bump_no h2)]
        exact ⟨by rw [uptoK_append, eA, uptoK_in _ hx, eB], ins_cut_big l l' b (by omega) h6⟩
theorem insAll_cut (k : Int) (w : List Int) : CutTo k (insAll w) (insAll (uptoK k w)) := by
  suffices h : ∀ (w : List Int) (t t' : List (List Int)), Tabl t → CutTo k t t' → CutTo k (w.foldl insRows t) ((uptoK k w).foldl insRows t') from h w [] [] trivial rfl
  intro w
  induction w with
  | nil => intro t t' _ h; exact h
  | cons x w ih =>
    intro t t' ht h
    by_cases hx : x ≤ k
    · rw [uptoK_in _ hx]
      exact ih _ _ (ins_tabl t x ht) (ins_cut_small t t' x (fun r hr => (ht.rows r hr).1) hx h)
    · rw [uptoK_out _ (by omega)]
      exact ih _ _ (ins_tabl t x ht) (ins_cut_big t t' x (by omega) h)
theorem cut_firstRows {k : Int} : ∀ (j : Nat) (l l' : List (List Int)), CutTo k l l' → firstRows j l' = ((l.take j).map (fun r => (uptoK k r).length)).sum
  | 0, l, l', _ => by simp [firstRows]
  | j + 1, [], l', h => by
    have h : l' = [] := h
    subst h
    simp [firstRows]
  | j + 1, r :: l, [], h => by
    have h1 := cut_firstRows j l [] h.2
    have h2 := h.1
    simp only [firstRows, List.take_nil, List.map_nil, List.sum_nil] at h1 ⊢
    simp only [List.take_succ_cons, List.map_cons, List.sum_cons, h2, List.length_nil]
    omega
  | j + 1, r :: l, r' :: l', h => by
    have h1 := cut_firstRows j l l' h.2
    have h2 := h.1
    simp only [firstRows, List.take_succ_cons, List.map_cons, List.sum_cons] at h1 ⊢
    rw [h1, h2]
theorem eqv_firstRows {u v : List Int} (h : Eqv u v) (j : Nat) : firstRows j (insAll u) = firstRows j (insAll v) :=
  Nat.le_antisymm ((greene_rise v j).2 _ ((fit_eqv h j _).1.1 (greene_rise u j).1)) ((greene_rise u j).2 _ ((fit_eqv h j _).1.2 (greene_rise v j).1))
theorem sorted_ext : ∀ {r s : List Int}, Sorted r → Sorted s → (∀ k, (uptoK k r).length = (uptoK k s).length) → r = s
  | [], [], _, _, _ => rfl
  | [], y :: s, _, _, h => by have := h y; rw [uptoK_in _ (Int.le_refl y)] at this; simp [uptoK] at this
  | x :: r, [], _, _, h => by have := h x; rw [uptoK_in _ (Int.le_refl x)] at this; simp [uptoK] at this
  | x :: r, y :: s, hr, hs, h => by
    obtain ⟨r1, r2⟩ := List.pairwise_cons.1 hr
    obtain ⟨s1, s2⟩ := List.pairwise_cons.1 hs
    have e : x = y := by
      rcases Int.lt_trichotomy x y with hlt | he | hgt
      · have := h x
        rw [uptoK_in _ (Int.le_refl x), uptoK_none (l := y :: s) (fun e he => by rcases List.mem_cons.1 he with rfl | he; exact hlt; have := s1 e he; omega)] at this
        simp at this
      · exact he
      · have := h y
        rw [uptoK_in _ (Int.le_refl y), uptoK_none (l := x :: r) (fun e he => by rcases List.mem_cons.1 he with rfl | he; exact hgt; have := r1 e he; omega)] at this
        simp at this
    subst e
    rw [sorted_ext r2 s2 (fun k => by
      have := h k
      by_cases hx : x ≤ k
      · rw [uptoK_in _ hx, uptoK_in _ hx] at this; simpa using this
      · rwa [uptoK_out _ (by omega), uptoK_out _ (by omega)] at this)]
theorem tabl_ext : ∀ {a b : List (List Int)}, (∀ r ∈ a, Sorted r ∧ r ≠ []) → (∀ r ∈ b, Sorted r ∧ r ≠ []) → (∀ (k : Int) (j : Nat), ((a.take j).map (fun r => (uptoK k r).length)).sum = ((b.take j).map (fun r => (uptoK k r).length)).sum) → a = b
  | [], [], _, _, _ => rfl
  | [], [] :: m, _, hb, _ => absurd rfl (hb [] (by simp)).2
  | [], (y :: s) :: m, _, _, h => by
    have := h y 1
    rw [List.take_succ_cons, List.map_cons, uptoK_in _ (Int.le_refl y)] at this
    simp at this
  | [] :: l, [], ha, _, _ => absurd rfl (ha [] (by simp)).2
  | (x :: r) :: l, [], _, _, h => by
    have := h x 1
    rw [List.take_succ_cons, List.map_cons, uptoK_in _ (Int.le_refl x)] at this
    simp at this
  | r :: l, s :: m, ha, hb, h => by
    have e : r = s := sorted_ext (ha r (by simp)).1 (hb s (by simp)).1 (fun k => by have := h k 1; simpa using this)
    subst e
    rw [tabl_ext (a := l) (b := m) (fun q hq => ha q (by simp [hq])) (fun q hq => hb q (by simp [hq])) (fun k j => by
      have := h k (j + 1)
      simp only [List.take_succ_cons, List.map_cons, List.sum_cons] at this
      omega)]
/-- words that are reached from each other by exchanges have one tableau -/
theorem eqv_insAll {u v : List Int} (h : Eqv u v) : insAll u = insAll v :=
  tabl_ext (insAll_tabl u).rows (insAll_tabl v).rows (fun k j => by
    rw [← cut_firstRows j _ _ (insAll_cut k u), ← cut_firstRows j _ _ (insAll_cut k v)]
    exact eqv_firstRows (eqv_uptoK k h) j)
/-- Knuth's theorem -/
theorem eqv_iff {u v : List Int} : Eqv u v ↔ insAll u = insAll v :=
  ⟨eqv_insAll, fun h => (insAll_eqv u).trans (by rw [h]; exact (insAll_eqv v).symm)⟩
end
end Go.Proofs.YthdoglkdcbghpaaDoor.Q

set_option linter.unusedVariables false
set_option linter.unusedSimpArgs false
namespace Go.Proofs.YthdoglkdcbghpaaDoor.Q
open Go.RowKit Go.Proofs.YthdoglkdcbghpaaDoor.F Go.Proofs.YthdoglkdcbghpaaDoorW.PrintWords Go.Proofs.YthdoglkdcbghpaaDoorW.PrintLast Go.Proofs.YthdoglkdcbghpaaDoorW.PrintMore
/-- one exchange, forth or back -/
theorem waysI_iff {w x : List Int} : x ∈ waysI w ↔ Knuth w x ∨ Knuth x w := by
  rw [mem_waysI]
  constructor
  · rintro ⟨U, V, a, b, c, rfl, p, hp, rfl⟩
    rcases mem_parts3.1 hp with ⟨h, rfl⟩ | ⟨h, rfl⟩
    · rcases h with h | h
      · exact .inr (Knuth.before U V c a b h.1 h.2)
      · exact .inl (Knuth.before U V b a c h.1 h.2)
    · rcases h with h | h
      · exact .inl (Knuth.after U V a c b h.1 h.2)
      · exact .inr (Knuth.after U V b c a h.1 h.2)
  · rintro (h | h)
    · cases h with
      | before U V x y z h1 h2 => exact ⟨U, V, y, x, z, rfl, [y, z, x], mem_parts3.2 (.inl ⟨.inr ⟨h1, h2⟩, rfl⟩), rfl⟩
      | after U V x y z h1 h2 => exact ⟨U, V, x, z, y, rfl, [z, x, y], mem_parts3.2 (.inr ⟨.inl ⟨h1, h2⟩, rfl⟩), rfl⟩
    · cases h with
      | before U V x y z h1 h2 => exact ⟨U, V, y, z, x, rfl, [y, x, z], mem_parts3.2 (.inl ⟨.inl ⟨h1, h2⟩, rfl⟩), rfl⟩
      | after U V x y z h1 h2 => exact ⟨U, V, z, x, y, rfl, [x, z, y], mem_parts3.2 (.inr ⟨.inr ⟨h1, h2⟩, rfl⟩), rfl⟩
end Go.Proofs.YthdoglkdcbghpaaDoor.Q

set_option linter.unusedVariables false
set_option linter.unusedSimpArgs false
namespace Go.Proofs.YthdoglkdcbghpaaDoor.Q
open Go.RowKit Go.Proofs.YthdoglkdcbghpaaDoor.F Go.Proofs.YthdoglkdcbghpaaDoorW.PrintWords Go.Proofs.YthdoglkdcbghpaaDoorW.PrintLast Go.Proofs.YthdoglkdcbghpaaDoorW.PrintMore
section
variable {nb : List Int → List (List Int)} {w : List Int}
theorem bfs_eqv (hnb : ∀ y x, x ∈ nb y ↔ x ∈ waysI y) (n : Nat) : ∀ x ∈ (bfs nb w n).1, Eqv w x := by
  have key : ∀ (m j : Nat), j < m → ∀ y, (bfs nb w n).1[j]? = some y → Eqv w y := by
    intro m
    induction m with
    | zero => intro j hj; omega
    | succ m ih =>
      intro j hj y hy
      obtain ⟨⟨_, _, h3, _, h5⟩, _⟩ := bfs_met (nb := nb) (w := w) n
      by_cases h0 : j = 0
      · subst h0
        rw [h3] at hy
        rw [← Option.some.inj hy]
        exact Eqv.refl _
      · obtain ⟨i, z, d, g1, g2, g3, _, _⟩ := h5 j y (by omega) hy
        refine Eqv.trans (ih i (by omega) z g2) ?_
        rcases waysI_iff.1 ((hnb z y).1 g3) with h | h
        · exact Eqv.step h
        · exact Eqv.symm (Eqv.step h)
  intro x hx
  obtain ⟨i, hi, e⟩ := List.getElem_of_mem hx
  exact key (i + 1) i (by omega) x (by rw [List.getElem?_eq_getElem hi, e])
theorem bfs_class (hnb : ∀ y x, x ∈ nb y ↔ x ∈ waysI y) {n : Nat} (h : (bfs nb w n).1.length ≤ n) (x : List Int) : x ∈ (bfs nb w n).1 ↔ insAll w = insAll x := by
  rw [← eqv_iff]
  refine ⟨bfs_eqv hnb n x, fun he => ?_⟩
  have hc := bfs_closed h
  have key : ∀ {u v : List Int}, Eqv u v → (u ∈ (bfs nb w n).1 ↔ v ∈ (bfs nb w n).1) := by
    intro u v huv
    induction huv with
    | refl => exact Iff.rfl
    | step hk => exact ⟨fun hu => hc _ hu _ ((hnb _ _).2 (waysI_iff.2 (.inl hk))), fun hv => hc _ hv _ ((hnb _ _).2 (waysI_iff.2 (.inr hk)))⟩
    | symm _ ih => exact ih.symm
    | trans _ _ ih1 ih2 => exact ih1.trans ih2
  refine (key he).1 ?_
  obtain ⟨⟨_, _, h3, _, _⟩, _⟩ := bfs_met (nb := nb) (w := w) n
  exact List.mem_of_getElem? h3
end
theorem knuth_perm {u v : List Int} (h : Knuth u v) : u.Perm v := by
  cases h with
  | before U V x y z _ _ => exact ((List.Perm.swap z x []).cons y |>.append_left U).append_right V
  | after U V x y z _ _ => exact ((List.Perm.swap z x [y]).append_left U).append_right V
theorem eqv_perm {u v : List Int} (h : Eqv u v) : u.Perm v := by
  induction h with
  | refl => exact List.Perm.refl _
  | step h => exact knuth_perm h
  | symm _ ih => exact ih.symm
  | trans _ _ ih1 ih2 => exact ih1.trans ih2
/-- a class has at most n! words, so the search ends -/
theorem bfs_bound {nb : List Int → List (List Int)} {w : List Int} (hnb : ∀ y x, x ∈ nb y ↔ x ∈ waysI y) (n : Nat) : (bfs nb w n).1.length ≤ factW w.length := by
  rw [← (permsW_length w).1]
  exact nodup_le (bfs_met (nb := nb) (w := w) n).1.2.1 (fun x hx => permsW_mem (eqv_perm (bfs_eqv hnb n x hx)).symm)
end Go.Proofs.YthdoglkdcbghpaaDoor.Q

set_option linter.unusedVariables false
set_option linter.unusedSimpArgs false
namespace Go.Proofs.YthdoglkdcbghpaaDoor.Q
open Go.RowKit Go.Proofs.YthdoglkdcbghpaaDoor.F Go.Proofs.YthdoglkdcbghpaaDoorW.PrintWords Go.Proofs.YthdoglkdcbghpaaDoorW.PrintLast Go.Proofs.YthdoglkdcbghpaaDoorW.PrintMore
theorem bfs_same {w : List Int} (hw : isWord w = true) : ∀ n, bfs waysO w n = bfs (fun y => ordOf (waysI y)) w n
  | 0 => rfl
  | n + 1 => by
    show visit waysO (bfs waysO w n) n = visit (fun y => ordOf (waysI y)) (bfs (fun y => ordOf (waysI y)) w n) n
    rw [← bfs_same hw n]
    unfold visit
    cases h : (bfs waysO w n).1[n]? with
    | none => rfl
    | some y =>
      have h1 : isWord y = true := isWord_perm (bfs_perm w n y (List.mem_of_getElem? h)) hw
      have h2 : waysO y = ordOf (waysI y) := by unfold waysO; rw [if_pos h1]
      show (waysO y).foldl _ _ = (ordOf (waysI y)).foldl _ _
      rw [h2]
theorem reach_class {w v : List Int} (hw : isWord w = true) : v ∈ (reachW w).1 ↔ insAll w = insAll v := by
  have h9 := (isWord_iff.1 hw).1
  have h1 := bfs_few w h9 capW
  unfold reachW
  rw [bfs_same hw] at h1 ⊢
  exact bfs_class (fun y x => ordOf_mem _ _) (by rw [capW_eq]; rw [capW_eq] at h1; exact h1) v
theorem waysO_symm {x z : List Int} (hx : isWord x = true) (h : z ∈ waysO x) : x ∈ waysO z := by
  have hz : isWord z = true := isWord_perm (waysO_perm h) hx
  unfold waysO at h ⊢
  rw [if_pos hx] at h
  rw [if_pos hz]
  rw [ordOf_mem, waysI_iff] at h ⊢
  exact h.symm
/-- where the next word stands among the exchanges -/
noncomputable def stepI (w y : List Int) (d : Nat) : Nat := (waysO y).findIdx (fun z => decide (farOf (reachW w) z = some (d : Int)))
noncomputable def stepW (w y : List Int) (d : Nat) : List Int := (waysO y).getD (stepI w y d) []
noncomputable def pathW (w : List Int) : Nat → List Int → List (List Int)
  | 0, y => [y]
  | d + 1, y => y :: pathW w d (stepW w y d)
section
variable {w y : List Int}
theorem reach_met (w : List Int) : Met waysO w (reachW w) := (bfs_met capW).1
theorem far_mem {d : Int} (h : farOf (reachW w) y = some d) : ∃ j : Nat, (reachW w).1[j]? = some y ∧ (reachW w).2[j]? = some d := by
  unfold farOf at h
  by_cases hm : y ∈ (reachW w).1
  · rw [if_pos hm] at h
    have h1 := List.idxOf_lt_length_of_mem hm
    obtain ⟨h2, _⟩ := reach_met w
    refine ⟨(reachW w).1.idxOf y, by rw [List.getElem?_eq_getElem h1, List.getElem_idxOf h1], ?_⟩
    have h3 := Option.some.inj h
    rw [List.getD_eq_getElem?_getD, List.getElem?_eq_getElem (by omega)] at h3
    rw [List.getElem?_eq_getElem (by omega)]
    exact congrArg some h3
  · rw [if_neg hm] at h; cases h
theorem far_word (hw : isWord w = true) {d : Int} (h : farOf (reachW w) y = some d) : isWord y = true ∧ y.length = w.length := by
  obtain ⟨j, h1, _⟩ := far_mem h
  have hp := bfs_perm w capW y (List.mem_of_getElem? h1)
  exact ⟨isWord_perm hp hw, hp.length_eq⟩
theorem stepI_ok (hw : isWord w = true) {d : Nat} (h : farOf (reachW w) y = some ((d + 1 : Nat) : Int)) :
    stepI w y d < (waysO y).length ∧ farOf (reachW w) (stepW w y d) = some (d : Int) ∧ ∀ q, q < stepI w y d → farOf (reachW w) ((waysO y).getD q []) ≠ some (d : Int) := by
  obtain ⟨j, h1, h2⟩ := far_mem h
  obtain ⟨g1, g2, g3, g4, g5⟩ := reach_met w
  have hj : 0 < j := by
    rcases Nat.eq_zero_or_pos j with e | e
    · rw [e, g4] at h2
      have := Option.some.inj h2
      omega
    · exact e
  obtain ⟨i, z, e, k1, k2, k3, k4, k5⟩ := g5 j y hj h1
  rw [h2] at k5
  have he : e = (d : Int) := by have := Option.some.inj k5; omega
  have hz : farOf (reachW w) z = some (d : Int) := by
    rw [farOf_at g2 k2, List.getD_eq_getElem?_getD, k4, he]; rfl
  have hyz : z ∈ waysO y := waysO_symm (far_word hw hz).1 k3
  have hlt : stepI w y d < (waysO y).length := List.findIdx_lt_length_of_exists ⟨z, hyz, decide_eq_true hz⟩
  refine ⟨hlt, ?_, fun q hq => ?_⟩
  · have h3 : decide (farOf (reachW w) (waysO y)[stepI w y d] = some (d : Int)) = true := List.findIdx_getElem (w := hlt)
    unfold stepW
    rw [List.getD_eq_getElem?_getD, List.getElem?_eq_getElem hlt]
    exact of_decide_eq_true h3
  · have h3 := List.not_of_lt_findIdx (p := fun z => decide (farOf (reachW w) z = some (d : Int))) (xs := waysO y) hq
    rw [List.getD_eq_getElem?_getD, List.getElem?_eq_getElem (by omega)]
    simpa using h3
theorem far_bd {d : Int} (h : farOf (reachW w) y = some d) (hw : w.length ≤ 9) : 0 ≤ d ∧ d ≤ 362880 := by
  obtain ⟨j, h1, h2⟩ := far_mem h
  have h3 := bfs_far w capW j d h2
  have h4 := bfs_few w hw capW
  obtain ⟨h5, _⟩ := List.getElem?_eq_some_iff.1 h1
  have h6 : (reachW w).1.length = (bfs waysO w capW).1.length := rfl
  omega
theorem pathW_len (d : Nat) : ∀ y, (pathW w d y).length = d + 1 := by
  induction d with
  | zero => intro y; rfl
  | succ d ih => intro y; show (y :: pathW w d _).length = _; rw [List.length_cons, ih]
end
theorem reach_closed {w y z : List Int} (hw : w.length ≤ 9) (hy : y ∈ (reachW w).1) (hz : z ∈ waysO y) : z ∈ (reachW w).1 :=
  bfs_closed (nb := waysO) (w := w) (n := capW) (by have := bfs_few w hw capW; rw [capW_eq]; rw [capW_eq] at this; exact this) y hy z hz
theorem far_idx {w z : List Int} (hz : z ∈ (reachW w).1) : (reachW w).1.idxOf z < (reachW w).2.length ∧ farOf (reachW w) z = some ((reachW w).2.getD ((reachW w).1.idxOf z) 0) := by
  have h1 := List.idxOf_lt_length_of_mem hz
  refine ⟨by rw [← (reach_met w).1]; exact h1, ?_⟩
  unfold farOf
  rw [if_pos hz]
end Go.Proofs.YthdoglkdcbghpaaDoor.Q

set_option linter.unusedVariables false
set_option linter.unusedSimpArgs false
namespace Go.Proofs.YthdoglkdcbghpaaDoor.Q
open Go.RowKit Go.Proofs.YthdoglkdcbghpaaDoor.F Go.Proofs.YthdoglkdcbghpaaDoorW.PrintWords Go.Proofs.YthdoglkdcbghpaaDoorW.PrintLast Go.Proofs.YthdoglkdcbghpaaDoorW.PrintMore
noncomputable def pathD (s x : List Int) : Nat := ((farOf (reachW s) x).getD 0).toNat
noncomputable def pathF (x s : List Int) : List (List Int) := if isWord x = true ∧ isWord s = true ∧ x.length ≤ 7 ∧ x ∈ (reachW s).1 then pathW s (pathD s x) x else []
noncomputable def pathB (x s : List Int) : Bool := @decide (isWord x = true ∧ isWord s = true ∧ x.length ≤ 7 ∧ x ∈ (reachW s).1) inferInstance
theorem pathD_eq {s x : List Int} (hs : s.length ≤ 9) (h : x ∈ (reachW s).1) : farOf (reachW s) x = some ((pathD s x : Nat) : Int) := by
  have h1 : ∃ d, farOf (reachW s) x = some d := by unfold farOf; rw [if_pos h]; exact ⟨_, rfl⟩
  obtain ⟨d, hd⟩ := h1
  have h2 := far_bd hd hs
  unfold pathD
  rw [hd]
  congr 1
  show d = ((d.toNat : Nat) : Int)
  omega
section
variable {s : List Int}
theorem drop_one {d : Nat} {y : List Int} : (pathW s (d + 1) y).drop 1 = stepW s y d :: (pathW s d (stepW s y d)).drop 1 := by
  show pathW s d (stepW s y d) = _
  cases d with
  | zero => rfl
  | succ d => rfl
end
end Go.Proofs.YthdoglkdcbghpaaDoor.Q

set_option linter.unusedVariables false
set_option linter.unusedSimpArgs false
namespace Go.Proofs.YthdoglkdcbghpaaDoor.Q
open Go.RowKit Go.Proofs.YthdoglkdcbghpaaDoor.F Go.Proofs.YthdoglkdcbghpaaDoorW.PrintWords Go.Proofs.YthdoglkdcbghpaaDoorW.PrintLast Go.Proofs.YthdoglkdcbghpaaDoorW.PrintMore
theorem perm3 {β : Type} {a b c : β} {L : List β} : (a :: b :: c :: L).Perm (c :: a :: b :: L) := (List.perm_append_comm (l₁ := [a, b]) (l₂ := [c])).append_right L
section
variable {ops : Array Oper} {rest : List Oper} {oi : Oper} {a : Act} {Q : Exit → Act → World → Prop} {w W : World} {L : List Ob}
/-- a literal of one row: a spine of its own -/
theorem St.oneP {N : Tmp} (p : Rw) (hgd : oi.guard = none) (_hd : oi.dst = some N) (hrun : (execOp a.eval oi).run Tryd.prog W = .ok (.value (.slice (some ⟨W.heap.size, 0, none⟩) 1 1)) (W.alloc (.cells #[p.v] 22))) (h : St w W L)
    (hk : ∀ g w1 ok1, St w w1 (obR spK 22 w ok1 (.slice (some ⟨g, 0, none⟩) 1 1) [p] :: L) → wpList Tryd.prog ops Q rest (a.put oi.dst (.slice (some ⟨g, 0, none⟩) 1 1)) w1) : wpList Tryd.prog ops Q (oi :: rest) a W := by
  have e1 : (W.alloc (.cells #[p.v] 22 (0, 0))).heap.size = W.heap.size + 1 := by show (W.heap.push _).size = _; exact Array.size_push ..
  refine Kd.event_run hgd hrun (hk W.heap.size _ (fun k => k = W.heap.size) (h.add (o := obR spK 22 w (fun k => k = W.heap.size) (.slice (some ⟨W.heap.size, 0, none⟩) 1 1) [p]) (below_alloc (Below.refl _ _) _) (fun k hk => ?_) ?_ firmR))
  · have h1 : k = W.heap.size := hk
    omega
  · refine ⟨fun k hk => ?_, [p.v], ⟨rfl, .inr ⟨W.heap.size, 1, #[p.v], rfl, h.below.size, ?_, Nat.le_refl _, by unfold maxLen; omega, rfl, rfl⟩⟩, ⟨rfl, fun j q hj => ?_⟩⟩
    · simpa [Value.ownBlock] using hk.symm
    · show (W.heap.push _)[W.heap.size]? = _
      exact Array.getElem?_push_size
    · cases j with
      | zero => obtain rfl : p = q := by simpa using hj
                rfl
      | succ j => simp at hj
end
theorem perm5 {β : Type} {a b c d e : β} {L : List β} : (a :: b :: c :: d :: e :: L).Perm (b :: d :: c :: e :: a :: L) := ((List.perm_append_comm (l₁ := [a]) (l₂ := [b, c, d, e])).append_right L).trans (List.Perm.cons _ (List.Perm.swap _ _ _))
end Go.Proofs.YthdoglkdcbghpaaDoor.Q

set_option linter.unusedVariables false
set_option linter.unusedSimpArgs false
namespace Go.Proofs.YthdoglkdcbghpaaDoor.Q
open Go.RowKit Go.Proofs.YthdoglkdcbghpaaDoor.F Go.Proofs.YthdoglkdcbghpaaDoorW.PrintWords Go.Proofs.YthdoglkdcbghpaaDoorW.PrintLast Go.Proofs.YthdoglkdcbghpaaDoorW.PrintMore
theorem flatten_bulk : ∀ (m : List (List Int)), m.flatten.length = bulk m
  | [] => rfl
  | r :: m => by rw [List.flatten_cons, List.length_append, flatten_bulk m]; rfl
end Go.Proofs.YthdoglkdcbghpaaDoor.Q

set_option linter.unusedVariables false
set_option linter.unusedSimpArgs false
namespace Go.Proofs.YthdoglkdcbghpaaDoor.Q
open Go.RowKit Go.Proofs.YthdoglkdcbghpaaDoor.F Go.Proofs.YthdoglkdcbghpaaDoorW.PrintWords Go.Proofs.YthdoglkdcbghpaaDoorW.PrintLast Go.Proofs.YthdoglkdcbghpaaDoorW.PrintMore
theorem slices_Concat_l1 (m : List (List Int)) (hm : m.length ≤ 1048576) (hb : bulk m ≤ 1048576) : ∀ i, i ≤ m.length → Ev (fun k => slices_Concat_int_int.l1 k (m.take i).flatten m (m.length : Int) (i : Int)) m.flatten := by
  refine downTo m.length ?_ ?_
  · refine Ev.step (fun k => by rw [slices_Concat_int_int.l1]) ?_
    exact ev_neg (by omega) (ev_val (by rw [List.take_length]))
  · intro i hi h
    have e : (m.take i).flatten ++ rd_L1 m (i : Int) = (m.take (i + 1)).flatten := by rw [take_rows m i hi, List.flatten_append]; simp
    have hl : (m.take i).flatten.length + (rd_L1 m (i : Int)).length ≤ bulk m := by
      rw [← List.length_append, e, ← flatten_bulk m, List.length_flatten, List.length_flatten, List.map_take]
      conv => rhs; rw [← List.take_append_drop (i + 1) (m.map List.length), List.sum_append]
      omega
    refine Ev.step (fun k => by rw [slices_Concat_int_int.l1]) ?_
    refine ev_pos (by omega) (ev_pos (by omega) (ev_pos (by omega) (ev_pos (by omega) ?_)))
    rw [e, wrap_succ (by omega)]
    exact h
theorem slices_Concat_l0 (m : List (List Int)) (hm : m.length ≤ 1048576) (hb : bulk m ≤ 1048576) : ∀ i, i ≤ m.length → Ev (fun k => slices_Concat_int_int.l0 k m (((m.take i).flatten.length : Nat) : Int) m (m.length : Int) (i : Int)) m.flatten := by
  refine downTo m.length ?_ ?_
  · refine Ev.step (fun k => by rw [slices_Concat_int_int.l0]) ?_
    refine ev_neg (by omega) ?_
    rw [List.take_length, flatten_bulk]
    refine ev_bindc (b := []) (by unfold slices_Grow_int_int.f; rw [if_pos ⟨rfl, by omega, by omega⟩]) ?_
    have := slices_Concat_l1 m hm hb 0 (by omega)
    simpa using this
  · intro i hi h
    have e : (m.take i).flatten ++ rd_L1 m (i : Int) = (m.take (i + 1)).flatten := by rw [take_rows m i hi, List.flatten_append]; simp
    have hl : (m.take i).flatten.length + (rd_L1 m (i : Int)).length ≤ bulk m := by
      rw [← List.length_append, e, ← flatten_bulk m, List.length_flatten, List.length_flatten, List.map_take]
      conv => rhs; rw [← List.take_append_drop (i + 1) (m.map List.length), List.sum_append]
      omega
    have e2 : wrap64 (((m.take i).flatten.length : Nat) + ((rd_L1 m (i : Int)).length : Int)) = (((m.take (i + 1)).flatten.length : Nat) : Int) := by
      rw [← e, List.length_append, wrap_id (by omega) (by omega)]; omega
    refine Ev.step (fun k => by rw [slices_Concat_int_int.l0]) ?_
    refine ev_pos (by omega) (ev_pos (by omega) (ev_pos (by omega) ?_))
    rw [e2, wrap_succ (by omega)]
    exact ev_neg (by omega) h
theorem slices_Concat_ev (m : List (List Int)) (hm : m.length ≤ 1048576) (hb : bulk m ≤ 1048576) : Ev (fun k => slices_Concat_int_int.f k m) m.flatten := by
  unfold slices_Concat_int_int.f
  have := slices_Concat_l0 m hm hb 0 (by omega)
  simpa using this
end Go.Proofs.YthdoglkdcbghpaaDoor.Q

set_option linter.unusedVariables false
set_option linter.unusedSimpArgs false
namespace Go.Proofs.YthdoglkdcbghpaaDoor.Q
open Go.RowKit Go.Proofs.YthdoglkdcbghpaaDoor.F Go.Proofs.YthdoglkdcbghpaaDoorW.PrintWords Go.Proofs.YthdoglkdcbghpaaDoorW.PrintLast Go.Proofs.YthdoglkdcbghpaaDoorW.PrintMore
def cmpW : List Int → List Int → Int
  | [], [] => 0
  | [], _ :: _ => -1
  | _ :: _, [] => 1
  | a :: l, b :: m => if a < b then -1 else if a > b then 1 else cmpW l m
theorem cmpW_lt : ∀ a b : List Int, decide (cmpW a b < 0) = lexB a b
  | [], [] => rfl
  | [], _ :: _ => rfl
  | _ :: _, [] => rfl
  | x :: a, y :: b => by
    have e : cmpW (x :: a) (y :: b) = if x < y then -1 else if x > y then 1 else cmpW a b := rfl
    rw [e]
    simp only [lexB]
    by_cases h1 : x < y
    · rw [if_pos h1, if_neg (by omega)]; simp [h1]
    · by_cases h2 : x > y
      · rw [if_neg h1, if_pos h2, if_neg (by omega)]; simp; omega
      · rw [if_neg h1, if_neg h2, if_pos (by omega)]; exact cmpW_lt a b
theorem spec_l12Before_ev (a b : List Int) (ha : a.length ≤ 1048576) (hb : b.length ≤ 1048576) : Ev (fun k => spec_l12Before.f k a b) (lexB a b) := by
  unfold spec_l12Before.f
  have key : ∀ d i : Nat, i + d = a.length → i ≤ b.length → Ev (fun k => spec_l12Before.l0 k a b (i : Int)) (lexB (a.drop i) (b.drop i)) := by
    intro d
    induction d with
    | zero =>
      intro i hi hib
      refine Ev.step (fun k => by rw [spec_l12Before.l0]) (ev_neg (by omega) ?_)
      refine Ev.step (fun k => by rw [spec_l12Before.j1]) (ev_neg (by simp) (ev_val ?_))
      rw [List.drop_of_length_le (by omega)]
      by_cases h : i < b.length
      · rw [drop_rd b i h]; simp only [lexB]; exact decide_eq_true (by omega)
      · rw [List.drop_of_length_le (by omega)]; simp only [lexB]; exact decide_eq_false (by omega)
    | succ d ih =>
      intro i hi hib
      refine Ev.step (fun k => by rw [spec_l12Before.l0]) (ev_pos (by omega) ?_)
      refine Ev.step (fun k => by rw [spec_l12Before.j1]) ?_
      by_cases h : i < b.length
      · refine ev_pos (decide_eq_true (by omega)) (ev_pos (by omega) (ev_pos (by omega) (ev_pos (by omega) (ev_ite (fun he => ?_) (fun he => ev_val ?_)))))
        · rw [wrap_succ (by omega)]
          refine ev_eq (ih (i + 1) (by omega) (by omega)) ?_
          rw [drop_rd a i (by omega), drop_rd b i h]
          simp only [lexB]; rw [if_pos he]
        · rw [drop_rd a i (by omega), drop_rd b i h]
          simp only [lexB]; rw [if_neg he]
      · refine ev_neg (by simp; omega) (ev_val ?_)
        rw [drop_rd a i (by omega), List.drop_of_length_le (show b.length ≤ i by omega)]
        simp only [lexB]; exact decide_eq_false (by omega)
  have := key a.length 0 (by omega) (Nat.zero_le _)
  simpa using this
theorem cmp_Compare_eq (a b : Int) : cmp_Compare_int.f a b = some (if a < b then -1 else if a > b then 1 else 0) := by
  unfold cmp_Compare_int.f cmp_isNaN_int.f
  simp only [Option.bind_some, bne_self_eq_false, Bool.false_eq_true, if_false]
  split
  · rfl
  · split <;> rfl
theorem slices_Compare_ev (a b : List Int) (ha : a.length ≤ 1048576) (hb : b.length ≤ 1048576) : Ev (fun k => slices_Compare_int_int.f k a b) (cmpW a b) := by
  unfold slices_Compare_int_int.f
  have key : ∀ d i : Nat, i + d = a.length → i ≤ b.length → Ev (fun k => slices_Compare_int_int.l0 k a b a (a.length : Int) (i : Int)) (cmpW (a.drop i) (b.drop i)) := by
    intro d
    induction d with
    | zero =>
      intro i hi hib
      refine Ev.step (fun k => by rw [slices_Compare_int_int.l0]) (ev_neg (by omega) ?_)
      rw [List.drop_of_length_le (by omega)]
      by_cases h : i < b.length
      · rw [drop_rd b i h]; exact ev_pos (by omega) (ev_val rfl)
      · rw [List.drop_of_length_le (by omega)]; exact ev_neg (by omega) (ev_val rfl)
    | succ d ih =>
      intro i hi hib
      refine Ev.step (fun k => by rw [slices_Compare_int_int.l0]) (ev_pos (by omega) (ev_pos (by omega) (ev_pos (by omega) ?_)))
      by_cases h : i < b.length
      · refine ev_neg (by omega) (ev_pos (by omega) (ev_bindc (cmp_Compare_eq _ _) ?_))
        have e : cmpW (a.drop i) (b.drop i) = if rd a (i : Int) < rd b (i : Int) then -1 else if rd a (i : Int) > rd b (i : Int) then 1 else cmpW (a.drop (i + 1)) (b.drop (i + 1)) := by
          rw [drop_rd a i (by omega), drop_rd b i h]; rfl
        rw [e]
        by_cases h1 : rd a (i : Int) < rd b (i : Int)
        · rw [if_pos h1, if_pos h1]; exact ev_neg (by omega) (ev_val rfl)
        · rw [if_neg h1, if_neg h1]
          by_cases h2 : rd a (i : Int) > rd b (i : Int)
          · rw [if_pos h2, if_pos h2]; exact ev_neg (by omega) (ev_val rfl)
          · rw [if_neg h2, if_neg h2]
            refine ev_pos rfl ?_
            rw [wrap_succ (by omega)]
            exact ih (i + 1) (by omega) (by omega)
      · refine ev_pos (by omega) (ev_val ?_)
        rw [drop_rd a i (by omega), List.drop_of_length_le (show b.length ≤ i by omega)]
        rfl
  have := key a.length 0 (by omega) (Nat.zero_le _)
  simpa using this
end Go.Proofs.YthdoglkdcbghpaaDoor.Q

set_option linter.unusedVariables false
set_option linter.unusedSimpArgs false
namespace Go.Proofs.YthdoglkdcbghpaaDoor.Q
open Go.RowKit Go.Proofs.YthdoglkdcbghpaaDoor.F Go.Proofs.YthdoglkdcbghpaaDoorW.PrintWords Go.Proofs.YthdoglkdcbghpaaDoorW.PrintLast Go.Proofs.YthdoglkdcbghpaaDoorW.PrintMore
theorem swo_lex {α : Type} [Inhabited α] (f : α → List Int) : Go.Sort.SWO (ltOf (fun x y : α => cmpW (f x) (f y))) := by
  have e : ∀ x y : α, ltOf (fun x y : α => cmpW (f x) (f y)) x y = lexB (f x) (f y) := fun x y => cmpW_lt _ _
  refine ⟨fun x => ?_, fun x y z h1 h2 => ?_, fun x y z h1 h2 => ?_⟩
  · rw [e]; exact lexB_self _
  · rw [e] at *; exact lexB_trans h1 h2
  · rw [e] at *
    cases h3 : lexB (f x) (f z) with
    | false => rfl
    | true =>
      cases h4 : lexB (f y) (f x) with
      | true => rw [lexB_trans h4 h3] at h2; cases h2
      | false => rw [lexB_tri h1 h4, h2] at h3; cases h3
theorem grown_sort {α : Type} [Inhabited α] (enc : α → Value) (W : World) (g n : Nat) (d : Array α) (os : Array Obj) : W.grownBy (sortWorld enc W g 0 n d os) (some g) := by
  unfold sortWorld
  refine ⟨rfl, rfl, rfl, by simp, fun k hk hne => ?_⟩
  rw [Go.Sort.heap_grow_old _ _ (by simpa using hk)]
  have : g ≠ k := fun e => hne (by rw [e])
  simp [Go.Sort.putRow, Go.Sort.mapBlock, Go.Sort.ahead, Array.getElem?_modify, this]
section
variable {w W : World} {L : List Ob} {ok okP : Nat → Prop} {ps D : List Rw} {t g c : Nat}
theorem nil_C (W : World) : Kd.C (Kd.int .i64) W none 0 [] := (Kd.R_reads' (Kd.R_nil (Kd.int .i64) 0 W 0 (fun _ => True))).2.2
set_option maxHeartbeats 2000000 in
theorem sort_st (h : St w W (obR spK t w ok (.slice (some ⟨g, 0, none⟩) ps.length c) ps :: obP w okP D :: L)) (hD : ∀ p ∈ ps, p ∈ D) (hl : ∀ p ∈ D, p.r.length ≤ 1048576) (hn : ps.length ≤ 1152921504606846976) :
    Calls Tryd.prog 20 #[.slice (some ⟨g, 0, none⟩) ps.length c, .func (.func 21) #[] #[]] W fun e W' => e = .returned (.tuple #[]) ∧ ∃ qs, ps.Perm qs ∧ qs.Pairwise (fun a b => lexB b.r a.r = false) ∧ St w W' (obR spK t w ok (.slice (some ⟨g, 0, none⟩) qs.length c) qs :: obP w okP D :: L) := by
  obtain ⟨α, hα⟩ : ∃ α : Type, α = {p : Rw // p ∈ default :: D} := ⟨_, rfl⟩
  subst hα
  have hDp : ∀ p ∈ ps, p ∈ default :: D := fun p hp => List.mem_cons_of_mem _ (hD p hp)
  have inst : Inhabited {p : Rw // p ∈ default :: D} := ⟨⟨default, List.mem_cons_self⟩⟩
  obtain ⟨d, hd⟩ : ∃ d, d = (ps.pmap (fun p hp => (⟨p, hp⟩ : {p : Rw // p ∈ default :: D})) hDp).toArray := ⟨_, rfl⟩
  have hds : d.size = ps.length := by rw [hd]; simp
  have hdl : d.toList.map (·.1) = ps := by rw [hd]; simp [List.map_pmap]
  have hdj : ∀ j (hj : j < ps.length), (d[j]!).1 = ps[j] := fun j hj => by
    rw [getElem!_pos d j (by omega)]
    have h1 : (d.toList.map (·.1))[j]? = some (d[j]'(by omega)).1 := by simp [hds, hj]
    rw [hdl, List.getElem?_eq_getElem hj] at h1
    exact (Option.some.inj h1).symm
  have hR : Kd.R spK t W w.heap.size ok (.slice (some ⟨g, 0, none⟩) ps.length c) ps := h.get 0 rfl
  obtain ⟨f, hf⟩ : ∃ f : Nat → Nat, ∀ p ∈ D, Kd.R (Kd.int .i64) 3 W w.heap.size (fun b => okP b ∧ f b = p.k) p.v p.r := h.get 1 rfl
  have hap : ∀ b, ok b → ¬ okP b := (List.pairwise_cons.1 h.apart).1 _ List.mem_cons_self
  have hw := (h.own _ List.mem_cons_self).1
  have hg : ok g := hR.1 g (by simp [Value.ownBlock])
  have hgl := (hw g hg).2
  have hC : ∀ (n : Nat) (dk : Array {p : Rw // p ∈ default :: D}) (os : Array Obj) (x : {p : Rw // p ∈ default :: D}), Reads (Kd.int .i64) (sortWorld (fun y : {p : Rw // p ∈ default :: D} => y.1.v) W g 0 n dk os) x.1.v x.1.r := fun n dk os x => by
    rcases List.mem_cons.1 x.2 with e | hx
    · rw [e]; exact ⟨none, 0, rfl, Nat.le_refl _, nil_C _⟩
    · exact Kd.R_reads (Kd.R_step (hf x.1 hx) (fun b hb hlt => (grown_sort _ W g n dk os).block b hlt (fun e => by cases e; exact hap g hg hb.1)))
  have hlx : ∀ x : {p : Rw // p ∈ default :: D}, x.1.r.length ≤ 1048576 := fun x => by
    rcases List.mem_cons.1 x.2 with e | hx
    · rw [e]; exact Nat.zero_le _
    · exact hl _ hx
  have hcmp : CmpLays1 Tryd.prog 21 #[] (fun y : {p : Rw // p ∈ default :: D} => y.1.v) (fun x y => cmpW x.1.r y.1.r) g 0 d.size W := by
    intro n os dk _ x y
    obtain ⟨A1, c1, e1, hc1, hC1⟩ := hC n dk os x
    obtain ⟨A2, c2, e2, hc2, hC2⟩ := hC n dk os y
    obtain ⟨K, hK⟩ := slices_Compare_ev x.1.r y.1.r (hlx x) (hlx y)
    have h1 := slices_Compare_int_int.calls K A1 c1 x.1.r A2 c2 y.1.r _ _ hC1 hc1 hC2 hc2 (hK K (Nat.le_refl _))
    rw [← e1, ← e2] at h1
    refine h1.mono ?_
    rintro e w' ⟨rfl, ⟨⟨q, rfl⟩⟩⟩
    exact ⟨rfl, q, #[], by rw [Go.Sort.grow_empty]⟩
  have hH : Go.Sort.Holds (fun y : {p : Rw // p ∈ default :: D} => y.1.v) W g 0 d := fun j hj => by
    have h1 := St.cellP h 0 rfl j (by omega)
    rw [Nat.zero_add]
    refine ⟨h1.1.trans ?_, h1.2⟩
    show some _ = some (d[j]!).1.v
    rw [hdj j (by omega)]
  have hcall := Go.Proofs.YthdoglkdcbghpaaDoor.Shelf.Tryd.slices_SortFunc (fun y : {p : Rw // p ∈ default :: D} => y.1.v) (fun _ => rfl) (fun x y => cmpW x.1.r y.1.r) (swo_lex (fun x : {p : Rw // p ∈ default :: D} => x.1.r)) 21 #[] g 0 c d W (enters_of Tryd.func21 (by kernel_rfl) rfl) hcmp hH hgl (by omega)
  rw [hds] at hcall
  refine hcall.mono ?_
  rintro e W' ⟨rfl, d', n, os, ⟨hz, _, hp⟩, hs, rfl⟩
  have hpp : d'.toList.Perm d.toList := by
    have e1 : d'.extract 0 d.size = d' := by rw [← hz]; simp
    have e2 : d.extract 0 d.size = d := by simp
    rw [← hds, e1, e2] at hp
    exact hp
  obtain ⟨qs, hq⟩ : ∃ qs, qs = d'.toList.map (·.1) := ⟨_, rfl⟩
  have hql : qs.length = ps.length := by rw [hq, ← hdl]; simp [hz]
  refine ⟨rfl, qs, ?_, ?_, ?_⟩
  · rw [hq, ← hdl]; exact (hpp.map _).symm
  · rw [hq, List.pairwise_map]
    refine List.pairwise_iff_getElem.2 fun i j hi hj hij => ?_
    have h1 := hs i j (Nat.zero_le _) hij (by simpa [hz, hds] using hj)
    rw [getElem!_pos d' i (by simpa using hi), getElem!_pos d' j (by simpa using hj)] at h1
    have h2 : lexB (d'[j]'(by simpa using hj)).1.r (d'[i]'(by simpa using hi)).1.r = false := (cmpW_lt _ _).symm.trans h1
    simpa using h2
  · have hgr := grown_sort (fun y : {p : Rw // p ∈ default :: D} => y.1.v) W g n d' os
    rw [hql]
    refine h.redo1 (o' := obR spK t w ok (.slice (some ⟨g, 0, none⟩) ps.length c) qs) 0 rfl ⟨hgr.size, fun k hk hne => hgr.block k hk (fun e => hne (by cases e; exact hg))⟩ (h.below.grown hgr h.below.size (fun k hk => by cases hk; exact (hw g hg).1)) ⟨fun b hb => ⟨.inl hb, (hw b hb).1, Nat.lt_of_lt_of_le (hw b hb).2 hgr.size⟩, ?_, firmR⟩
    obtain ⟨h0, inner, ho, hr⟩ := hR
    rcases ho.2 with ⟨e1, _⟩ | ⟨g', cap, cur, e1, hgb, hh, hnc, hcm, hcs, ht⟩
    · cases e1
    · injection e1 with e1 _ e2
      injection e1 with e1
      injection e1 with e1
      subst e1 e2
      have hg2 : g < W.heap.size := hgl
      have hcur : (sortWorld (fun y : {p : Rw // p ∈ default :: D} => y.1.v) W g 0 n d' os).heap[g]? = some (.cells (Go.Sort.putCells (fun y : {p : Rw // p ∈ default :: D} => y.1.v) 0 d' cur) t (0, 0)) := by
        unfold sortWorld
        rw [Go.Sort.heap_grow_old _ _ (by simpa using hg2)]
        simp [Go.Sort.putRow, Go.Sort.mapBlock, Go.Sort.ahead, Array.getElem?_modify, hh, Go.Sort.onCells]
      have hcs' : cur.size = c := by rw [hcs]; show c * 1 = c; omega
      have hlen : (qs.map Rw.v).length = ps.length := by rw [List.length_map, hql]
      have hnc' : ps.length ≤ c := hnc
      have htk : (Go.Sort.putCells (fun y : {p : Rw // p ∈ default :: D} => y.1.v) 0 d' cur).toList.take (ps.length * 1) = qs.map Rw.v := by
        apply List.ext_getElem (by simp [Go.Sort.putCells, hcs', hql]; omega)
        intro j h1 h2
        have hj : j < ps.length := by rw [hlen] at h2; exact h2
        simp only [List.getElem_take, Go.Sort.putCells, Array.getElem_toList, Array.getElem_mapIdx, Nat.zero_le, true_and, Nat.zero_add, Nat.sub_zero]
        rw [if_pos (by omega), getElem!_pos d' j (by omega)]
        simp [hq]
      refine ⟨h0, qs.map Rw.v, ⟨?_, .inr ⟨g, c, _, ?_, hgb, hcur, ?_, hcm, ?_, ?_⟩⟩, ?_⟩
      · rw [hlen, hql]; show _ = _ * 1; omega
      · rw [hql]
      · rw [hql]; exact hnc'
      · simp [Go.Sort.putCells]; exact hcs
      · rw [hql]; exact htk
      · exact Kd.reps_scalar qs
end
end Go.Proofs.YthdoglkdcbghpaaDoor.Q

set_option linter.unusedVariables false
set_option linter.unusedSimpArgs false
namespace Go.Proofs.YthdoglkdcbghpaaDoor.Q
open Go.RowKit Go.Proofs.YthdoglkdcbghpaaDoor.F Go.Proofs.YthdoglkdcbghpaaDoorW.PrintWords Go.Proofs.YthdoglkdcbghpaaDoorW.PrintLast Go.Proofs.YthdoglkdcbghpaaDoorW.PrintMore
theorem slices_Equal_ev (a b : List Int) (hb : a.length ≤ 1048576) : Ev (fun k => slices_Equal_int_int.f k a b) (decide (a = b)) := by
  unfold slices_Equal_int_int.f
  refine ev_ite (fun h => ?_) (fun h => ev_val ?_)
  · have := downTo (P := fun i => Ev (fun k => slices_Equal_int_int.l0 k a b (a.length : Int) (i : Int)) (decide (a.drop i = b.drop i))) a.length ?_ ?_ 0 (by omega)
    · simpa using this
    · refine Ev.step (fun k => by rw [slices_Equal_int_int.l0]) ?_
      refine ev_neg (by omega) (ev_val ?_)
      rw [List.drop_of_length_le (by omega), List.drop_of_length_le (by omega)]
      simp
    · intro i hi ih
      refine Ev.step (fun k => by rw [slices_Equal_int_int.l0]) ?_
      refine ev_pos (by omega) (ev_pos (by omega) (ev_pos (by omega) (ev_pos (by omega) (ev_ite (fun he => ?_) (fun he => ev_val ?_)))))
      · rw [wrap_succ (by omega)]
        refine ev_eq ih ?_
        rw [drop_rd a i (by omega), drop_rd b i (by omega), he]
        simp
      · rw [drop_rd a i (by omega), drop_rd b i (by omega)]
        simp [he]
  · have : a ≠ b := fun e => h (by rw [e])
    simp [this]
end Go.Proofs.YthdoglkdcbghpaaDoor.Q

set_option linter.unusedVariables false
set_option linter.unusedSimpArgs false
namespace Go.Proofs.YthdoglkdcbghpaaDoor.Q
open Go.RowKit Go.Proofs.YthdoglkdcbghpaaDoor.F Go.Proofs.YthdoglkdcbghpaaDoorW.PrintWords Go.Proofs.YthdoglkdcbghpaaDoorW.PrintLast Go.Proofs.YthdoglkdcbghpaaDoorW.PrintMore
theorem compactW_snoc (L : List (List Int)) (y x : List Int) : compactW (L ++ [y, x]) = if y = x then compactW (L ++ [y]) else compactW (L ++ [y]) ++ [x] := by
  induction L with
  | nil =>
    simp only [List.nil_append, compactW]
    by_cases e : y = x
    · rw [if_pos e, if_pos e, e]
    · rw [if_neg e, if_neg e]; rfl
  | cons a L ih =>
    cases L with
    | nil =>
      simp only [List.nil_append, List.cons_append, compactW] at ih ⊢
      by_cases e : y = x <;> by_cases e2 : a = y <;> simp [e, e2]
      all_goals (try (rw [← e]; simp [e2]))
    | cons b L =>
      simp only [List.cons_append] at ih ⊢
      simp only [compactW] at ih ⊢
      rw [ih]
      by_cases e : y = x <;> by_cases e2 : a = b <;> simp [e, e2]
section
variable {w W : World} {L : List Ob} {ok okP : Nat → Prop} {ps D : List Rw} {t g c : Nat}
theorem St.clearP {N : Nat} (m : Nat) : ∀ {W : World} {ps : List Rw} (k : Nat), k + m ≤ ps.length → St w W (obR spK t w ok (.slice (some ⟨g, 0, none⟩) N c) ps :: L) →
    ∃ qs : List Rw, qs.length = ps.length ∧ qs.take k = ps.take k ∧ St w (W.setCells g k (List.replicate m (.slice none 0 0))) (obR spK t w ok (.slice (some ⟨g, 0, none⟩) N c) qs :: L) := by
  induction m with
  | zero => intro W ps k _ h; exact ⟨ps, rfl, rfl, h⟩
  | succ m ih =>
    intro W ps k hk h
    have hl : (ps.set k default).length = ps.length := List.length_set
    obtain ⟨qs, e1, e2, h3⟩ := ih (k + 1) (by rw [hl]; omega) (St.storeP h 0 rfl k default)
    refine ⟨qs, e1.trans hl, ?_, h3⟩
    have h4 := congrArg (List.take k) e2
    rw [List.take_take, List.take_take, Nat.min_eq_left (by omega)] at h4
    rw [h4]
    apply List.ext_getElem?; intro j
    rw [List.getElem?_take, List.getElem?_take]
    by_cases hj : j < k
    · rw [if_pos hj, if_pos hj, List.getElem?_set_ne (by omega)]
    · rw [if_neg hj, if_neg hj]
theorem equal_st {v v' : Value} {x y : List Int} (h : St w W L) (hr : Reads (Kd.int .i64) W v x) (hr' : Reads (Kd.int .i64) W v' y) (hl : x.length ≤ 1048576) {b : Bool} (hb : decide (x = y) = b) :
    Calls Tryd.prog 47 #[v, v'] W fun e W' => e = .returned (.bool b) ∧ St w W' L := by
  obtain ⟨A, c, rfl, hc, hC⟩ := hr
  obtain ⟨A', c', rfl, hc', hC'⟩ := hr'
  obtain ⟨K, hK⟩ := ev_eq (slices_Equal_ev x y hl) hb
  refine (slices_Equal_int_int.calls K A c x A' c' y _ W hC hc hC' hc' (hK K (Nat.le_refl _))).mono ?_
  rintro e W' ⟨rfl, hd⟩
  exact ⟨rfl, h.drawn hd⟩
theorem rows_step {m : Nat} (h0 : 0 < m) (hm : m < ps.length) : compactW ((ps.take (m + 1)).map Rw.r) = if (ps[m - 1]'(by omega)).r = ps[m].r then compactW ((ps.take m).map Rw.r) else compactW ((ps.take m).map Rw.r) ++ [ps[m].r] := by
  obtain ⟨j, rfl⟩ : ∃ j, m = j + 1 := ⟨m - 1, by omega⟩
  have e1 : ps.take (j + 1) = ps.take j ++ [ps[j]'(by omega)] := List.take_succ_eq_append_getElem (by omega)
  have e2 : ps.take (j + 1 + 1) = ps.take j ++ [ps[j]'(by omega), ps[j + 1]] := by rw [List.take_succ_eq_append_getElem hm, e1, List.append_assoc]; rfl
  rw [e1, e2, List.map_append, List.map_append]
  exact compactW_snoc _ _ _
end
section
variable {w W : World} {L : List Ob} {ok okP : Nat → Prop} {ps D : List Rw} {t g c : Nat}
set_option maxHeartbeats 16000000 in
set_option maxRecDepth 100000 in
theorem compact_st (h : St w W (obR spK t w ok (.slice (some ⟨g, 0, none⟩) ps.length c) ps :: obP w okP D :: L)) (hD : ∀ p ∈ ps, p ∈ D) (hl : ∀ p ∈ D, p.r.length ≤ 1048576) (hn : ps.length ≤ 1152921504606846976) (hc : ps.length ≤ c) :
    Calls Tryd.prog 46 #[.slice (some ⟨g, 0, none⟩) ps.length c, .func (.func 47) #[] #[]] W fun e W' => ∃ qs : List Rw, e = .returned (.slice (some ⟨g, 0, none⟩) qs.length c) ∧ qs.Sublist ps ∧ qs.map Rw.r = compactW (ps.map Rw.r) ∧ St w W' (obR spK t w ok (.slice (some ⟨g, 0, none⟩) qs.length c) qs :: obP w okP D :: L) := by
  have H0 := Aside0.mk h
  have HD_ := Aside0.mk hD
  have HL_ := Aside0.mk hl
  clear h hD hl
  by_cases h2 : ps.length < 2
  · have h2z : (ps.length : Int) < 2 := by omega
    have HE : Aside0 (ps.map Rw.r = compactW (ps.map Rw.r)) := ⟨by
      match ps, h2 with
      | [], _ => rfl
      | [p], _ => rfl
      | _ :: _ :: _, h2 => simp at h2; omega⟩
    go_enter Tryd.func46, Tryd.ntmps46
    go_wp2
    go_ret
    exact ⟨ps, rfl, List.Sublist.refl _, HE.out, H0.out⟩
  · have h2z : ¬ (ps.length : Int) < 2 := by omega
    obtain ⟨N, hN⟩ : ∃ N, N = ps.length := ⟨_, rfl⟩
    rw [← hN] at h2 h2z hn hc H0 ⊢
    have HN := Aside0.mk hN
    clear hN
    go_enter Tryd.func46, Tryd.ntmps46
    go_wp2
    go_loopg [5] N (fun kq v5 wr => ∃ i : Nat, 1 ≤ i ∧ i ≤ N ∧ N - i ≤ kq ∧ v5 = .int .i64 (i : Int) ∧ Aside0 (compactW ((ps.take i).map Rw.r) = (ps.take i).map Rw.r) ∧ Aside0 (St w wr (obR spK t w ok (.slice (some ⟨g, 0, none⟩) N c) ps :: obP w okP D :: L)))
    case atStart =>
      refine ⟨1, Nat.le_refl _, by omega, by omega, rfl, ⟨?_⟩, H0⟩
      have := HN.out
      match ps, this with
      | [], e => rfl
      | p :: _, _ => rfl
    case round =>
      clear H0
      obtain ⟨i, h1, hi, hg, rfl, HC, HS⟩ := hrel
      by_cases hlt : i < N
      · have hltz : (i : Int) < (N : Int) := by omega
        have hi0 : (0 : Int) ≤ (i : Int) := by omega
        obtain ⟨j, hj⟩ : ∃ j, j = i - 1 := ⟨_, rfl⟩
        have ei : IntKind.i64.wrap ((i : Int) - 1) = (j : Int) := by rw [IntWalk.i64_in _ (by omega)]; omega
        have hj0 : (0 : Int) ≤ (j : Int) := by omega
        have hjz : (j : Int) < (N : Int) := by omega
        have hl1 : i < ps.length := by rw [← HN.out]; exact hlt
        have hl2 : i - 1 < ps.length := by omega
        have hst := rows_step (ps := ps) (m := i) (by omega) hl1
        obtain ⟨p, hp⟩ : ∃ p, ps[i] = p := ⟨_, rfl⟩
        obtain ⟨q, hq⟩ : ∃ q, ps[i - 1] = q := ⟨_, rfl⟩
        rw [hp, hq] at hst
        have HPM := Aside0.mk (HD_.out p (by rw [← hp]; exact List.getElem_mem hl1))
        have HQM := Aside0.mk (HD_.out q (by rw [← hq]; exact List.getElem_mem hl2))
        obtain ⟨pk, pA, pc, pr⟩ := p
        obtain ⟨qk, qA, qc, qr⟩ := q
        have HS1 := Aside0.mk (HS.out.quiet (below_drew (Below.refl _ _)))
        have HX : Aside0 (∀ W', St w W' (obR spK t w ok (.slice (some ⟨g, 0, none⟩) N c) ps :: obP w okP D :: L) → W'.cell? ⟨g, i, none⟩ = some (.slice pA pr.length pc) ∧ W'.cell? ⟨g, j, none⟩ = some (.slice qA qr.length qc)) := ⟨fun W' hW => by
          subst hj
          refine ⟨(St.cellP hW 0 rfl i hl1).1.trans ?_, (St.cellP hW 0 rfl (i - 1) hl2).1.trans ?_⟩
          · rw [hp]; rfl
          · rw [hq]; rfl⟩
        have HJ := Aside0.mk hj
        have HP1 := Aside0.mk hp
        have HSt := Aside0.mk hst
        clear hp hq hst hj
        by_cases hpq : pr = qr
        · have HB := Aside0.mk (decide_eq_true hpq)
          have HEq := Aside0.mk hpq.symm
          clear hpq
          go_wp2_with fail
          go_region_held3 (fun W => W.cell? ⟨g, i, none⟩ = some (.slice pA pr.length pc) ∧ W.cell? ⟨g, j, none⟩ = some (.slice qA qr.length qc)) (first | exact HX.out _ HS1.out | exact HX.out _ H4.out)
            (first | (go_at_call 47; refine (equal_st HS1.out (St.readP HS1.out 1 rfl HPM.out) (St.readP HS1.out 1 rfl HQM.out) (HL_.out _ HPM.out) HB.out).mono ?_; rintro e w4 ⟨rfl, h_⟩; have H4 := Aside0.mk h_; clear h_))
          have HI : Aside0 (∃ K : List Rw, K.length = i ∧ K.Sublist (ps.take (i + 1)) ∧ compactW ((ps.take (i + 1)).map Rw.r) = K.map Rw.r ∧ ps = K ++ ps.drop i) := ⟨ps.take i, by rw [List.length_take]; omega, List.take_sublist_take_left (by omega), by rw [HSt.out, if_pos HEq.out]; exact HC.out, (List.take_append_drop i ps).symm⟩
          have HS4 := H4
          clear HS HS1 HX HC HSt HB HEq HPM HQM HJ hj0 hjz ei H4
          go_wp2
          go_loopg [5, 7] N (fun kq v5 v7 wr => ∃ (kk k2 : Nat) (K : List Rw), 1 ≤ k2 ∧ i + k2 ≤ N ∧ N - (i + k2) ≤ kq ∧ v5 = .int .i64 (kk : Int) ∧ v7 = .int .i64 (k2 : Int) ∧ kk < i + k2 ∧ Aside0 (K.length = kk ∧ K.Sublist (ps.take (i + k2)) ∧ compactW ((ps.take (i + k2)).map Rw.r) = K.map Rw.r) ∧ Aside0 (St w wr (obR spK t w ok (.slice (some ⟨g, 0, none⟩) N c) (K ++ ps.drop kk) :: obP w okP D :: L)))
          case atStart =>
            obtain ⟨K, e1, e2, e3, e4⟩ := HI.out
            exact ⟨i, 1, K, by omega, by omega, by omega, rfl, rfl, by omega, ⟨e1, e2, e3⟩, ⟨by rw [← e4]; exact HS4.out⟩⟩
          case round =>
            clear HS4 HI hg
            obtain ⟨kk, k2, K, hk1, hk2, hg, rfl, rfl, hkk, HK, HS⟩ := hrel
            by_cases hlt2 : i + k2 < N
            · have hk0 : (0 : Int) ≤ (k2 : Int) := by omega
              have hkz : (k2 : Int) < ((N - i : Nat) : Int) := by omega
              obtain ⟨j, hj⟩ : ∃ j, j = k2 - 1 := ⟨_, rfl⟩
              have ei : IntKind.i64.wrap ((k2 : Int) - 1) = (j : Int) := by rw [IntWalk.i64_in _ (by omega)]; omega
              have hj0 : (0 : Int) ≤ (j : Int) := by omega
              have hjz : (j : Int) < ((N - i : Nat) : Int) := by omega
              have hq0 : (0 : Int) ≤ (kk : Int) := by omega
              have hqz : (kk : Int) < (N : Int) := by omega
              have hl1 : i + k2 < ps.length := by rw [← HN.out]; exact hlt2
              have hl2 : i + k2 - 1 < ps.length := by omega
              have hst := rows_step (ps := ps) (m := i + k2) (by omega) hl1
              have hat : ∀ m (hm : m < ps.length), kk ≤ m → ∀ (h : m < (K ++ ps.drop kk).length), (K ++ ps.drop kk)[m] = ps[m] := fun m hm hkm h => by
                have e := HK.out.1
                rw [List.getElem_append_right (by omega), List.getElem_drop]
                congr 1
                omega
              have hll : (K ++ ps.drop kk).length = ps.length := by have e := HK.out.1; rw [List.length_append, List.length_drop]; omega
              obtain ⟨p, hp⟩ : ∃ p, ps[i + k2] = p := ⟨_, rfl⟩
              obtain ⟨q, hq⟩ : ∃ q, ps[i + k2 - 1] = q := ⟨_, rfl⟩
              rw [hp, hq] at hst
              have HPM := Aside0.mk (HD_.out p (by rw [← hp]; exact List.getElem_mem hl1))
              have HQM := Aside0.mk (HD_.out q (by rw [← hq]; exact List.getElem_mem hl2))
              obtain ⟨pk, pA, pc, pr⟩ := p
              obtain ⟨qk, qA, qc, qr⟩ := q
              have HS1 := Aside0.mk (HS.out.quiet (below_drew (Below.refl _ _)))
              have HX : Aside0 (∀ W', St w W' (obR spK t w ok (.slice (some ⟨g, 0, none⟩) N c) (K ++ ps.drop kk) :: obP w okP D :: L) → W'.cell? ⟨g, i + k2, none⟩ = some (.slice pA pr.length pc) ∧ W'.cell? ⟨g, i + j, none⟩ = some (.slice qA qr.length qc)) := ⟨fun W' hW => by
                subst hj
                rw [show i + (k2 - 1) = i + k2 - 1 by omega]
                refine ⟨(St.cellP hW 0 rfl (i + k2) (by omega)).1.trans ?_, (St.cellP hW 0 rfl (i + k2 - 1) (by omega)).1.trans ?_⟩
                · rw [hat _ hl1 (by omega), hp]; rfl
                · rw [hat _ hl2 (by omega), hq]; rfl⟩
              have HY : Aside0 (∀ W', St w W' (obR spK t w ok (.slice (some ⟨g, 0, none⟩) N c) (K ++ ps.drop kk) :: obP w okP D :: L) → ∃ u, W'.cell? ⟨g, kk, none⟩ = some u ∧ W'.frozen? ⟨g, kk, none⟩ = false) := ⟨fun W' hW => ⟨_, St.cellP hW 0 rfl kk (by omega)⟩⟩
              have HP1 := Aside0.mk hp
              have HSt := Aside0.mk hst
              clear hp hq hst hj hat
              by_cases hpq : pr = qr
              · have HB := Aside0.mk (decide_eq_true hpq)
                have HEq := Aside0.mk hpq.symm
                clear hpq
                go_wp2_with fail
                go_region_held3 (fun W => W.cell? ⟨g, i + k2, none⟩ = some (.slice pA pr.length pc) ∧ W.cell? ⟨g, i + j, none⟩ = some (.slice qA qr.length qc)) (first | exact HX.out _ HS1.out | exact HX.out _ H4.out)
                  (first | (go_at_call 47; refine (equal_st HS1.out (St.readP HS1.out 1 rfl HPM.out) (St.readP HS1.out 1 rfl HQM.out) (HL_.out _ HPM.out) HB.out).mono ?_; rintro e w4 ⟨rfl, h_⟩; have H4 := Aside0.mk h_; clear h_))
                have HK2 : Aside0 (K.length = kk ∧ K.Sublist (ps.take (i + (k2 + 1))) ∧ compactW ((ps.take (i + (k2 + 1))).map Rw.r) = K.map Rw.r) := ⟨HK.out.1, HK.out.2.1.trans (List.take_sublist_take_left (by omega)), by rw [← Nat.add_assoc, HSt.out, if_pos HEq.out]; exact HK.out.2.2⟩
                go_wp2
                go_roundg (N - (i + (k2 + 1)))
                case measure => omega
                case rel => exact ⟨kk, k2 + 1, K, by omega, by omega, by omega, rfl, by go_num, by omega, HK2, H4⟩
              · have HB := Aside0.mk (decide_eq_false hpq)
                have HEq := Aside0.mk (fun e : qr = pr => hpq e.symm)
                clear hpq
                go_wp2_with fail
                go_region_held3 (fun W => W.cell? ⟨g, i + k2, none⟩ = some (.slice pA pr.length pc) ∧ W.cell? ⟨g, i + j, none⟩ = some (.slice qA qr.length qc)) (first | exact HX.out _ HS1.out | exact HX.out _ H4.out)
                  (first | (go_at_call 47; refine (equal_st HS1.out (St.readP HS1.out 1 rfl HPM.out) (St.readP HS1.out 1 rfl HQM.out) (HL_.out _ HPM.out) HB.out).mono ?_; rintro e w4 ⟨rfl, h_⟩; have H4 := Aside0.mk h_; clear h_))
                have HK2 : Aside0 ((K ++ [Rw.mk pk pA pc pr]).length = kk + 1 ∧ (K ++ [Rw.mk pk pA pc pr]).Sublist (ps.take (i + (k2 + 1))) ∧ compactW ((ps.take (i + (k2 + 1))).map Rw.r) = (K ++ [Rw.mk pk pA pc pr]).map Rw.r) := ⟨by
                  refine ⟨by rw [List.length_append, HK.out.1]; rfl, ?_, ?_⟩
                  · rw [← Nat.add_assoc, List.take_succ_eq_append_getElem hl1, HP1.out]
                    exact HK.out.2.1.append (List.Sublist.refl _)
                  · rw [← Nat.add_assoc, HSt.out, if_neg HEq.out, HK.out.2.2, List.map_append]; rfl⟩
                have HW := Aside0.mk (St.storeP H4.out 0 rfl kk ⟨pk, pA, pc, pr⟩)
                have ESet : Aside0 ((K ++ ps.drop kk).set kk ⟨pk, pA, pc, pr⟩ = (K ++ [Rw.mk pk pA pc pr]) ++ ps.drop (kk + 1)) := ⟨by
                  have e := HK.out.1
                  rw [List.set_append_right _ _ (by omega), e, Nat.sub_self, List.drop_eq_getElem_cons (show kk < ps.length by omega), List.set_cons_zero, List.append_assoc]; rfl⟩
                obtain ⟨hx1, hx2⟩ := HX.out _ H4.out
                obtain ⟨u, hu1, hu2⟩ := HY.out _ H4.out
                go_wp2
                go_roundg (N - (i + (k2 + 1)))
                case measure => omega
                case rel => exact ⟨kk + 1, k2 + 1, _, by omega, by omega, by omega, by go_num, by go_num, by omega, HK2, ⟨by rw [← ESet.out]; exact HW.out⟩⟩
            · have hend : i + k2 = N := by omega
              have hkz : ¬ (k2 : Int) < ((N - i : Nat) : Int) := by omega
              have hkk2 : kk < N := by omega
              have hq0 : (0 : Int) ≤ (kk : Int) := by omega
              have hqz : (kk : Int) < (N : Int) := by omega
              have hqy : (kk : Int) ≤ (N : Int) := by omega
              have hqc : (kk : Int) ≤ (c : Int) := by omega
              have hll : (K ++ ps.drop kk).length = N := by have e := HK.out.1; have := HN.out; rw [List.length_append, List.length_drop]; omega
              obtain ⟨qs, hq1, hq2, h_⟩ := St.clearP (N - kk) kk (by omega) HS.out
              have hcell : ∀ x, x < N - kk → (wr.cell? ⟨g, kk + x, none⟩).isSome = true ∧ wr.frozen? ⟨g, kk + x, none⟩ = false := fun x hx => by
                have := St.cellP HS.out 0 rfl (kk + x) (by omega)
                exact ⟨by rw [this.1]; rfl, this.2⟩
              have hcl : ∀ ty, (Builtin.clear_ #[23] ty #[.slice (some ⟨g, kk, none⟩) (N - kk) (c - kk)]).run Tryd.prog wr = .ok (.tuple #[]) (wr.setCells g kk (List.replicate (N - kk) (.slice none 0 0))) :=
                fun ty => Lib.run_clear_slice wr _ _ ty _ Tryd.underlying23 Tryd.zeroValue22 rfl rfl g kk _ _ (by omega) (fun x hx => (hcell x hx).1) (fun x hx => (hcell x hx).2)
              have HC2 := Aside0.mk (St.cutP h_ 0 rfl kk (by rw [hq1, hll]; omega) (qs := K) (by rw [hq2, ← HK.out.1, List.take_left]))
              have HE : Aside0 (K.Sublist ps ∧ K.map Rw.r = compactW (ps.map Rw.r)) := ⟨by
                have e := HK.out
                rw [hend, HN.out, List.take_length] at e
                exact ⟨e.2.1, e.2.2.symm⟩⟩
              have HKL := Aside0.mk HK.out.1
              clear HS h_ hq1 hq2 hcell hll HK
              go_wp2
              go_ret
              exact ⟨K, by rw [HKL.out] <;> rfl, HE.out.1, HE.out.2, HC2.out⟩
        · have HB := Aside0.mk (decide_eq_false hpq)
          have HEq := Aside0.mk (fun e : qr = pr => hpq e.symm)
          clear hpq
          go_wp2_with fail
          go_region_held3 (fun W => W.cell? ⟨g, i, none⟩ = some (.slice pA pr.length pc) ∧ W.cell? ⟨g, j, none⟩ = some (.slice qA qr.length qc)) (first | exact HX.out _ HS1.out | exact HX.out _ H4.out)
            (first | (go_at_call 47; refine (equal_st HS1.out (St.readP HS1.out 1 rfl HPM.out) (St.readP HS1.out 1 rfl HQM.out) (HL_.out _ HPM.out) HB.out).mono ?_; rintro e w4 ⟨rfl, h_⟩; have H4 := Aside0.mk h_; clear h_))
          have HE2 : Aside0 (compactW ((ps.take (i + 1)).map Rw.r) = (ps.take (i + 1)).map Rw.r) := ⟨by rw [HSt.out, if_neg HEq.out, HC.out, List.take_succ_eq_append_getElem hl1, List.map_append, HP1.out]; rfl⟩
          go_wp2
          go_roundg (N - (i + 1))
          case measure => omega
          case rel => exact ⟨i + 1, by omega, by omega, by omega, by go_num, HE2, H4⟩
      · have hi2 : i = N := by omega
        subst hi2
        have hltz : ¬ (i : Int) < (i : Int) := by omega
        have HE : Aside0 (ps.map Rw.r = compactW (ps.map Rw.r)) := ⟨by have := HC.out; rw [HN.out, List.take_length] at this; exact this.symm⟩
        go_wp2
        go_ret
        exact ⟨ps, by rw [HN.out] <;> rfl, List.Sublist.refl _, HE.out, by rw [← HN.out]; exact HS.out⟩
end
end Go.Proofs.YthdoglkdcbghpaaDoor.Q
