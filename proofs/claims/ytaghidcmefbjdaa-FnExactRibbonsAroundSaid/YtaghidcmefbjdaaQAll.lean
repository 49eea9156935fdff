/- Plain Lean: what the printed functions compute, topic by topic; conditions: those that each theorem names. -/
import Derived.Test.YtaghidcmefbjdaaF0
import Derived.Test.YtaghidcmefbjdaaF2
import Derived.Test.YtaghidcmefbjdaaF3
import Derived.Test.YtaghidcmefbjdaaF4
import Derived.IntWalk
import Derived.Test.YtaghidcmefbjdaaF1
import Derived.Test.YtaghidcmefbjdaaF5
import Derived.Test.YtaghidcmefbjdaaF6
import Derived.Deep.DeepCutAuto
import Derived.Deep.RegionHeld3
import Derived.Test.YtaghidcmefbjdaaF7
import Derived.Deep.Matrix
import Derived.Lib.SmallJoins
import Derived.ProofKit
import Derived.OpenShut
import Derived.ChangeSlices
set_option linter.unusedVariables false
set_option linter.unusedSimpArgs false
namespace Go.Proofs.Ytaghidcmefbjdaa.Q
open Go.RowKit Go.Proofs.Ytaghidcmefbjdaa.F Go.Proofs.YtaghidcmefbjdaaW.PrintWords Go.Proofs.YtaghidcmefbjdaaW.PrintLast Go.Proofs.YtaghidcmefbjdaaW.PrintMore
section
variable {α β : Type} {r : α}
theorem ev_pos {c : Prop} [Decidable c] {A B : Nat → Option α} (h : c) (hA : Ev A r) : Ev (fun k => if c then A k else B k) r := by
  simp only [if_pos h]; exact hA
theorem ev_neg {c : Prop} [Decidable c] {A B : Nat → Option α} (h : ¬ c) (hB : Ev B r) : Ev (fun k => if c then A k else B k) r := by
  simp only [if_neg h]; exact hB
theorem ev_ite {c : Prop} [Decidable c] {A B : Nat → Option α} (hA : c → Ev A r) (hB : ¬ c → Ev B r) : Ev (fun k => if c then A k else B k) r := by
  by_cases h : c
  · exact ev_pos h (hA h)
  · exact ev_neg h (hB h)
theorem ev_bindc {o : Option β} {b : β} {f : Nat → β → Option α} (h : o = some b) (hf : Ev (fun k => f k b) r) : Ev (fun k => o.bind (f k)) r := by
  subst h; exact hf
theorem ev_val {a : α} (h : a = r) : Ev (fun _ => some a) r := by subst h; exact ⟨0, fun _ _ => rfl⟩
theorem ev_eq {g : Nat → Option α} {a : α} (h : Ev g a) (e : a = r) : Ev g r := e ▸ h
theorem ev_unique {g : Nat → Option α} {a b : α} (h : Ev g a) (h' : Ev g b) : a = b := by
  obtain ⟨K, h⟩ := h
  obtain ⟨K', h'⟩ := h'
  have e := (h (max K K') (by omega)).symm.trans (h' (max K K') (by omega))
  exact Option.some.inj e
end
theorem wrap_nat {n : Nat} (h : n ≤ 9223372036854775807) : wrap64 (n : Int) = n := by unfold wrap64; omega
theorem wrap_succ {n : Nat} (h : n < 9223372036854775807) : wrap64 ((n : Int) + 1) = ((n + 1 : Nat) : Int) := by unfold wrap64; omega
theorem wrap_id {i : Int} (h0 : -9223372036854775808 ≤ i) (h : i ≤ 9223372036854775807) : wrap64 i = i := by unfold wrap64; omega
theorem rd_nat (l : List Int) (i : Nat) : rd l (i : Int) = l.getD i 0 := by unfold rd; simp
theorem rd_eq (l : List Int) (i : Nat) (h : i < l.length) : rd l (i : Int) = l[i] := by rw [rd_nat]; simp [h]
theorem drop_rd (l : List Int) (i : Nat) (h : i < l.length) : l.drop i = rd l (i : Int) :: l.drop (i + 1) := by
  rw [rd_eq l i h]; exact List.drop_eq_getElem_cons h
theorem take_rd (l : List Int) (i : Nat) (h : i < l.length) : l.take (i + 1) = l.take i ++ [rd l (i : Int)] := by
  rw [rd_eq l i h]; exact List.take_succ_eq_append_getElem h
theorem rd_mem (l : List Int) (i : Nat) (h : i < l.length) : rd l (i : Int) ∈ l := by rw [rd_eq l i h]; exact List.getElem_mem h
/-- Downward: what holds at n, and is handed down, holds at each i up to n. -/
theorem downTo {P : Nat → Prop} (n : Nat) (h0 : P n) (hs : ∀ i, i < n → P (i + 1) → P i) : ∀ i, i ≤ n → P i := by
  intro i hi
  obtain ⟨d, rfl⟩ : ∃ d, n = i + d := ⟨n - i, by omega⟩
  clear hi
  induction d generalizing i with
  | zero => simpa using h0
  | succ d ih => exact hs i (by omega) (ih (i + 1) (by rwa [show i + 1 + d = i + (d + 1) by omega]) (fun j hj => hs j (by omega)))
theorem rd_set (l : List Int) (i j : Nat) (v : Int) (h : i < l.length) : rd (l.set i v) (j : Int) = if i = j then v else rd l (j : Int) := by
  rw [rd_nat, rd_nat, List.getD_eq_getElem?_getD, List.getElem?_set]
  by_cases e : i = j
  · subst e; rw [if_pos rfl, if_pos h, if_pos rfl]; rfl
  · rw [if_neg e, if_neg e, List.getD_eq_getElem?_getD]
theorem rd_reverse (l : List Int) (i : Nat) (h : i < l.length) : rd l.reverse (i : Int) = rd l ((l.length - 1 - i : Nat) : Int) := by
  rw [rd_eq _ i (by simpa using h), rd_eq _ (l.length - 1 - i) (by omega)]
  simp [List.getElem_reverse]
end Go.Proofs.Ytaghidcmefbjdaa.Q

set_option linter.unusedVariables false
set_option linter.unusedSimpArgs false
namespace Go.Proofs.Ytaghidcmefbjdaa.Q
open Go.RowKit Go.Proofs.Ytaghidcmefbjdaa.F Go.Proofs.YtaghidcmefbjdaaW.PrintWords Go.Proofs.YtaghidcmefbjdaaW.PrintLast Go.Proofs.YtaghidcmefbjdaaW.PrintMore
/-- how often the numbers 1 to n occur -/
def sumCount (l : List Int) : Nat → Nat
  | 0 => 0
  | n + 1 => sumCount l n + l.countP (fun x => decide (x = ((n + 1 : Nat) : Int)))
theorem countP_split (l : List Int) (p q r : Int → Bool) (h : ∀ x ∈ l, (if r x then 1 else 0) = (if p x then 1 else 0) + (if q x then (1 : Nat) else 0)) : l.countP r = l.countP p + l.countP q := by
  induction l with
  | nil => rfl
  | cons x l ih =>
    have h1 := h x (by simp)
    have h2 := ih (fun y hy => h y (by simp [hy]))
    simp only [List.countP_cons]
    omega
theorem sumCount_eq (l : List Int) (n : Nat) : sumCount l n = l.countP (fun x => decide (1 ≤ x ∧ x ≤ (n : Int))) := by
  induction n with
  | zero =>
    rw [sumCount]; symm
    rw [List.countP_eq_zero]
    intro x _; simp; omega
  | succ n ih =>
    rw [sumCount, ih]; symm
    apply countP_split
    intro x _
    by_cases h1 : 1 ≤ x ∧ x ≤ (n : Int)
    · have : ¬ x = ((n + 1 : Nat) : Int) := by omega
      have h3 : 1 ≤ x ∧ x ≤ ((n + 1 : Nat) : Int) := by omega
      simp only [decide_eq_true h1, decide_eq_true h3, decide_eq_false this]; rfl
    · by_cases h2 : x = ((n + 1 : Nat) : Int)
      · have h3 : 1 ≤ x ∧ x ≤ ((n + 1 : Nat) : Int) := by omega
        simp only [decide_eq_false h1, decide_eq_true h3, decide_eq_true h2]; rfl
      · have h3 : ¬ (1 ≤ x ∧ x ≤ ((n + 1 : Nat) : Int)) := by omega
        simp only [decide_eq_false h1, decide_eq_false h3, decide_eq_false h2]; rfl
theorem countP_pos_of_mem {l : List Int} {v : Int} (h : v ∈ l) : 1 ≤ l.countP (fun x => decide (x = v)) := by
  have : 0 < l.countP (fun x => decide (x = v)) := List.countP_pos_iff.2 ⟨v, h, by simp⟩
  omega
theorem mem_of_countP {l : List Int} {v : Int} (h : 1 ≤ l.countP (fun x => decide (x = v))) : v ∈ l := by
  obtain ⟨x, hx, he⟩ := List.countP_pos_iff.1 (show 0 < l.countP (fun x => decide (x = v)) by omega)
  rw [decide_eq_true_eq] at he
  exact he ▸ hx
theorem nodup_count {l : List Int} (h : l.Nodup) (v : Int) : l.countP (fun x => decide (x = v)) ≤ 1 := by
  have := List.nodup_iff_count.1 h v
  rw [List.count] at this
  refine Nat.le_trans (Nat.le_of_eq ?_) this
  apply List.countP_congr
  intro x _; simp
theorem nodup_of_count {l : List Int} (h : ∀ v, l.countP (fun x => decide (x = v)) ≤ 1) : l.Nodup := by
  rw [List.nodup_iff_count]
  intro v
  rw [List.count]
  refine Nat.le_trans (Nat.le_of_eq ?_) (h v)
  apply List.countP_congr
  intro x _; simp
theorem sumCount_ge {l : List Int} (n : Nat) (h : ∀ v : Nat, 1 ≤ v → v ≤ n → (v : Int) ∈ l) : n ≤ sumCount l n := by
  induction n with
  | zero => omega
  | succ n ih =>
    have h1 := ih (fun v a b => h v a (by omega))
    have h2 := countP_pos_of_mem (h (n + 1) (by omega) (by omega))
    rw [sumCount]; omega
theorem sumCount_le {l : List Int} (hd : l.Nodup) (n : Nat) : sumCount l n ≤ n := by
  induction n with
  | zero => simp [sumCount]
  | succ n ih =>
    have := nodup_count hd ((n + 1 : Nat) : Int)
    rw [sumCount]; omega
theorem sumCount_tight {l : List Int} (n : Nat) (hle : sumCount l n ≤ n) (h : ∀ v : Nat, 1 ≤ v → v ≤ n → (v : Int) ∈ l) : ∀ v : Nat, 1 ≤ v → v ≤ n → l.countP (fun x => decide (x = (v : Int))) = 1 := by
  induction n with
  | zero => intro v a b; omega
  | succ n ih =>
    have h1 := sumCount_ge n (fun v a b => h v a (by omega))
    have h2 := countP_pos_of_mem (h (n + 1) (by omega) (by omega))
    rw [sumCount] at hle
    intro v a b
    by_cases e : v = n + 1
    · subst e; omega
    · exact ih (by omega) (fun v a b => h v a (by omega)) v a (by omega)
theorem sumCount_full {l : List Int} (hd : l.Nodup) (n : Nat) (hge : n ≤ sumCount l n) : ∀ v : Nat, 1 ≤ v → v ≤ n → (v : Int) ∈ l := by
  induction n with
  | zero => intro v a b; omega
  | succ n ih =>
    have h1 := sumCount_le hd n
    have h2 := nodup_count hd ((n + 1 : Nat) : Int)
    rw [sumCount] at hge
    intro v a b
    by_cases e : v = n + 1
    · subst e; exact mem_of_countP (by omega)
    · exact ih (by omega) v a (by omega)
/-- Each number from 1 to the length occurs: just where none occurs twice and none is greater. -/
theorem once_iff {l : List Int} (hp : ∀ x ∈ l, 1 ≤ x) : (∀ v : Nat, 1 ≤ v → v ≤ l.length → (v : Int) ∈ l) ↔ (l.Nodup ∧ ∀ x ∈ l, x ≤ (l.length : Int)) := by
  constructor
  · intro h
    have h1 := sumCount_ge l.length h
    have h2 : sumCount l l.length ≤ l.length := by rw [sumCount_eq]; exact List.countP_le_length
    have h3 : l.countP (fun x => decide (1 ≤ x ∧ x ≤ (l.length : Int))) = l.length := by rw [← sumCount_eq]; omega
    have h4 : ∀ x ∈ l, x ≤ (l.length : Int) := by
      intro x hx
      have := List.countP_eq_length.1 h3 x hx
      simp at this; exact this.2
    refine ⟨nodup_of_count (fun v => ?_), h4⟩
    by_cases hv : v ∈ l
    · have a := hp v hv
      have b := h4 v hv
      obtain ⟨m, rfl⟩ : ∃ m : Nat, v = (m : Int) := ⟨v.toNat, by omega⟩
      exact Nat.le_of_eq (sumCount_tight l.length h2 h m (by omega) (by omega))
    · rw [Nat.le_one_iff_eq_zero_or_eq_one]; left
      rw [List.countP_eq_zero]
      intro x hx he
      rw [decide_eq_true_eq] at he
      exact hv (he ▸ hx)
  · rintro ⟨hd, hle⟩
    refine sumCount_full hd l.length ?_
    rw [sumCount_eq, List.countP_eq_length.2]
    · exact Nat.le_refl _
    · intro x hx; rw [decide_eq_true_eq]; exact ⟨hp x hx, hle x hx⟩
/-- how many of the first j indices stand ahead of index i: by a smaller number, or by an equal one at a smaller index -/
def placeTo (l : List Int) (i : Nat) : Nat → Nat
  | 0 => 0
  | j + 1 => placeTo l i j + (if rd l (j : Int) < rd l (i : Int) ∨ (rd l (j : Int) = rd l (i : Int) ∧ j < i) then 1 else 0)
def placeOf (l : List Int) (i : Nat) : Int := ((1 + placeTo l i l.length : Nat) : Int)
/-- the places of a list's numbers -/
def places (l : List Int) : List Int := (List.range l.length).map (placeOf l)
theorem placeTo_le (l : List Int) (i : Nat) : ∀ j, placeTo l i j + (if i < j then 1 else 0) ≤ j := by
  intro j
  induction j with
  | zero => simp [placeTo]
  | succ j ih =>
    rw [placeTo]
    by_cases e : j = i
    · subst e
      have : ¬ (rd l (j : Int) < rd l (j : Int) ∨ (rd l (j : Int) = rd l (j : Int) ∧ j < j)) := by omega
      rw [if_neg this]
      rw [if_neg (by omega)] at ih
      rw [if_pos (by omega)]; omega
    · by_cases h2 : i < j
      · rw [if_pos h2] at ih
        rw [if_pos (show i < j + 1 by omega)]
        split <;> omega
      · rw [if_neg h2] at ih
        rw [if_neg (show ¬ i < j + 1 by omega)]
        split <;> omega
theorem placeTo_lt {l : List Int} {i i' : Nat} (h : rd l (i : Int) < rd l (i' : Int) ∨ (rd l (i : Int) = rd l (i' : Int) ∧ i < i')) : ∀ j, placeTo l i j + (if i < j then 1 else 0) ≤ placeTo l i' j := by
  intro j
  induction j with
  | zero => simp [placeTo]
  | succ j ih =>
    rw [placeTo, placeTo]
    by_cases e : j = i
    · subst e
      have : ¬ (rd l (j : Int) < rd l (j : Int) ∨ (rd l (j : Int) = rd l (j : Int) ∧ j < j)) := by omega
      rw [if_neg this, if_pos h]
      rw [if_neg (by omega)] at ih
      rw [if_pos (by omega)]; omega
    · have hs : (if i < j + 1 then 1 else 0) = (if i < j then 1 else 0) := by
        by_cases h2 : i < j
        · rw [if_pos h2, if_pos (by omega)]
        · rw [if_neg h2, if_neg (by omega)]
      rw [hs]
      generalize (if i < j then 1 else 0) = q at ih ⊢
      by_cases hc : rd l (j : Int) < rd l (i : Int) ∨ (rd l (j : Int) = rd l (i : Int) ∧ j < i)
      · have hc' : rd l (j : Int) < rd l (i' : Int) ∨ (rd l (j : Int) = rd l (i' : Int) ∧ j < i') := by omega
        rw [if_pos hc, if_pos hc']; omega
      · rw [if_neg hc]; split <;> omega
theorem places_length (l : List Int) : (places l).length = l.length := by simp [places]
theorem places_get (l : List Int) (i : Nat) (h : i < l.length) : rd (places l) (i : Int) = placeOf l i := by
  rw [rd_eq _ i (by rw [places_length]; exact h)]
  simp [places]
theorem placeOf_bd (l : List Int) (i : Nat) (h : i < l.length) : 1 ≤ placeOf l i ∧ placeOf l i ≤ (l.length : Int) := by
  have := placeTo_le l i l.length
  rw [if_pos h] at this
  unfold placeOf; omega
theorem mem_rd {l : List Int} {x : Int} (h : x ∈ l) : ∃ i, i < l.length ∧ rd l (i : Int) = x := by
  obtain ⟨i, hi, he⟩ := List.getElem_of_mem h
  exact ⟨i, hi, by rw [rd_eq l i hi]; exact he⟩
theorem ext_rd {a b : List Int} (hl : a.length = b.length) (h : ∀ i, i < a.length → rd a (i : Int) = rd b (i : Int)) : a = b := by
  apply List.ext_getElem hl
  intro i h1 h2
  rw [← rd_eq a i h1, ← rd_eq b i h2]
  exact h i h1
theorem nodup_rd {l : List Int} (h : ∀ i j, i < j → j < l.length → rd l (i : Int) ≠ rd l (j : Int)) : l.Nodup := by
  rw [List.nodup_iff_pairwise_ne, List.pairwise_iff_getElem]
  intro i j hi hj hij
  rw [← rd_eq l i hi, ← rd_eq l j hj]
  exact h i j hij hj
theorem rd_nodup {l : List Int} (h : l.Nodup) (i j : Nat) (hij : i < j) (hj : j < l.length) : rd l (i : Int) ≠ rd l (j : Int) := by
  rw [List.nodup_iff_pairwise_ne, List.pairwise_iff_getElem] at h
  rw [rd_eq l i (by omega), rd_eq l j hj]
  exact h i j (by omega) hj hij
theorem placeTo_nodup {l : List Int} (hd : l.Nodup) (i : Nat) (hi : i < l.length) : ∀ j, j ≤ l.length → placeTo l i j = (l.take j).countP (fun x => decide (x < rd l (i : Int))) := by
  intro j
  induction j with
  | zero => intro _; simp [placeTo]
  | succ j ih =>
    intro hj
    rw [placeTo, ih (by omega), take_rd l j (by omega), List.countP_append]
    congr 1
    by_cases hc : rd l (j : Int) < rd l (i : Int)
    · rw [if_pos (.inl hc)]; simp [hc]
    · rw [if_neg]
      · simp [hc]
      · rintro (h | ⟨h, hlt⟩)
        · exact hc h
        · exact rd_nodup hd j i hlt hi h
/-- A list whose numbers are 1 and more is the list of its places just where each number from 1 to its length occurs. -/
theorem places_iff {l : List Int} (hp : ∀ x ∈ l, 1 ≤ x) : places l = l ↔ ∀ v : Nat, 1 ≤ v → v ≤ l.length → (v : Int) ∈ l := by
  rw [once_iff hp]
  constructor
  · intro h
    have hg : ∀ i, i < l.length → rd l (i : Int) = placeOf l i := fun i hi => by rw [← places_get l i hi, h]
    refine ⟨nodup_rd (fun i j hij hj he => ?_), fun x hx => ?_⟩
    · have := placeTo_lt (l := l) (i := i) (i' := j) (.inr ⟨he, hij⟩) l.length
      rw [if_pos (by omega)] at this
      rw [hg i (by omega), hg j hj] at he
      unfold placeOf at he; omega
    · obtain ⟨i, hi, rfl⟩ := mem_rd hx
      rw [hg i hi]
      exact (placeOf_bd l i hi).2
  · rintro ⟨hd, hle⟩
    have hall := (once_iff hp).2 ⟨hd, hle⟩
    refine ext_rd (places_length l) (fun i hi => ?_)
    rw [places_length] at hi
    rw [places_get l i hi]
    have hm := rd_mem l i hi
    have h1 := hp _ hm
    have h2 := hle _ hm
    unfold placeOf
    rw [placeTo_nodup hd i hi l.length (Nat.le_refl _), List.take_length]
    obtain ⟨v, hv⟩ : ∃ v : Nat, rd l (i : Int) = ((v + 1 : Nat) : Int) := ⟨(rd l (i : Int) - 1).toNat, by omega⟩
    rw [hv]
    have e : l.countP (fun x => decide (x < ((v + 1 : Nat) : Int))) = sumCount l v := by
      rw [sumCount_eq]
      apply List.countP_congr
      intro x hx
      have := hp x hx
      simp; omega
    have h3 : sumCount l v = v := by
      have a := sumCount_le hd v
      have b := sumCount_ge (l := l) v (fun u a b => hall u a (by omega))
      omega
    rw [e, h3]; omega
end Go.Proofs.Ytaghidcmefbjdaa.Q

set_option linter.unusedVariables false
set_option linter.unusedSimpArgs false
namespace Go.Proofs.Ytaghidcmefbjdaa.Q
open Go.RowKit Go.Proofs.Ytaghidcmefbjdaa.F Go.Proofs.YtaghidcmefbjdaaW.PrintWords Go.Proofs.YtaghidcmefbjdaaW.PrintLast Go.Proofs.YtaghidcmefbjdaaW.PrintMore
theorem rows_nat (l : List (List Int)) (i : Nat) : rd_L1 l (i : Int) = l.getD i [] := by unfold rd_L1; simp
theorem rows_eq (l : List (List Int)) (i : Nat) (h : i < l.length) : rd_L1 l (i : Int) = l[i] := by rw [rows_nat]; simp [h]
theorem drop_rows (l : List (List Int)) (i : Nat) (h : i < l.length) : l.drop i = rd_L1 l (i : Int) :: l.drop (i + 1) := by
  rw [rows_eq l i h]; exact List.drop_eq_getElem_cons h
theorem take_rows (l : List (List Int)) (i : Nat) (h : i < l.length) : l.take (i + 1) = l.take i ++ [rd_L1 l (i : Int)] := by
  rw [rows_eq l i h]; exact List.take_succ_eq_append_getElem h
theorem rows_mem (l : List (List Int)) (i : Nat) (h : i < l.length) : rd_L1 l (i : Int) ∈ l := by rw [rows_eq l i h]; exact List.getElem_mem h
def isum : List Int → Int
  | [] => 0
  | x :: l => x + isum l
def msum : List (List Int) → Int
  | [] => 0
  | r :: m => isum r + msum m
/-- how many numbers a list of lists holds -/
def bulk : List (List Int) → Nat
  | [] => 0
  | r :: m => r.length + bulk m
theorem isum_nonneg {l : List Int} (h : ∀ x ∈ l, 0 ≤ x) : 0 ≤ isum l := by
  induction l with
  | nil => exact Int.le_refl _
  | cons x l ih =>
    have h1 := h x (by simp)
    have h2 := ih (fun y hy => h y (by simp [hy]))
    unfold isum; omega
theorem isum_le {l : List Int} {b : Nat} (h : ∀ x ∈ l, x ≤ (b : Int)) : isum l ≤ ((b * l.length : Nat) : Int) := by
  induction l with
  | nil => simp [isum]
  | cons x l ih =>
    have h1 := h x (by simp)
    have h2 := ih (fun y hy => h y (by simp [hy]))
    unfold isum
    rw [List.length_cons, Nat.mul_add]
    omega
theorem isum_append (a b : List Int) : isum (a ++ b) = isum a + isum b := by
  induction a with
  | nil => simp [isum]
  | cons x l ih => simp [isum, ih]; omega
theorem msum_nonneg {m : List (List Int)} (h : ∀ r ∈ m, ∀ x ∈ r, 0 ≤ x) : 0 ≤ msum m := by
  induction m with
  | nil => exact Int.le_refl _
  | cons r m ih =>
    have h1 := isum_nonneg (h r (by simp))
    have h2 := ih (fun y hy => h y (by simp [hy]))
    unfold msum; omega
theorem bulk_mem {m : List (List Int)} {r : List Int} (h : r ∈ m) : r.length ≤ bulk m := by
  induction m with
  | nil => simp at h
  | cons q m ih =>
    unfold bulk
    rcases List.mem_cons.1 h with rfl | h
    · omega
    · have := ih h; omega
end Go.Proofs.Ytaghidcmefbjdaa.Q

set_option linter.unusedVariables false
set_option linter.unusedSimpArgs false
namespace Go.Proofs.Ytaghidcmefbjdaa.Q
open Go.RowKit Go.Proofs.Ytaghidcmefbjdaa.F Go.Proofs.YtaghidcmefbjdaaW.PrintWords Go.Proofs.YtaghidcmefbjdaaW.PrintLast Go.Proofs.YtaghidcmefbjdaaW.PrintMore
theorem spec_l1In_eq (a b c : Int) : spec_l1In.f a b c = some (decide (b ≤ a ∧ a ≤ c)) := by
  unfold spec_l1In.f
  by_cases h : b ≤ a
  · rw [if_pos h]; simp [h]
  · rw [if_neg h]; simp [h]
end Go.Proofs.Ytaghidcmefbjdaa.Q

set_option linter.unusedVariables false
set_option linter.unusedSimpArgs false
namespace Go.Proofs.Ytaghidcmefbjdaa.Q
open Go.RowKit Go.Proofs.Ytaghidcmefbjdaa.F Go.Proofs.YtaghidcmefbjdaaW.PrintWords Go.Proofs.YtaghidcmefbjdaaW.PrintLast Go.Proofs.YtaghidcmefbjdaaW.PrintMore
def at0 (l : List Int) (i : Int) : Int := if 0 ≤ i ∧ i < (l.length : Int) then rd l i else 0
theorem at0_nat (l : List Int) (i : Nat) (h : i < l.length) : at0 l (i : Int) = rd l (i : Int) := by unfold at0; rw [if_pos (by omega)]
theorem at0_out (l : List Int) (i : Int) (h : i < 0 ∨ (l.length : Int) ≤ i) : at0 l i = 0 := by unfold at0; rw [if_neg (by omega)]
theorem impl_within_eq (a b c : Int) : impl_within.f a b c = some (decide (b ≤ a ∧ a ≤ c)) := rfl
theorem impl_at_eq (l : List Int) (i : Int) (hl : l.length ≤ 1048576) : impl_at.f l i = some (at0 l i) := by
  unfold impl_at.f at0
  rw [wrap_id (by omega) (by omega), impl_within_eq]
  simp only [Option.bind_some]
  by_cases h : 0 ≤ i ∧ i < (l.length : Int)
  · rw [if_pos h, if_pos (by rw [decide_eq_true_eq]; omega), if_pos h.1, if_pos h.2]
  · rw [if_neg h, if_neg (by rw [decide_eq_true_eq]; omega)]
theorem spec_l2At_eq (l : List Int) (i : Int) : spec_l2At.f l i = some (at0 l i) := by
  unfold spec_l2At.f at0
  by_cases h1 : i < 0
  · rw [if_pos h1, if_neg (by omega)]
  · rw [if_neg h1]
    by_cases h2 : i ≥ (l.length : Int)
    · rw [if_pos h2, if_neg (by omega)]
    · rw [if_neg h2, if_pos (by omega), if_pos (by omega), if_pos (by omega)]
/-- the numbers go on from 'prev' without rising, each is 1 or more, with 's' they add up to at most 9 -/
def partOk (prev s : Int) : List Int → Bool
  | [] => true
  | x :: l => decide (1 ≤ x ∧ x ≤ 9) && decide (x ≤ prev) && decide (s + x ≤ 9) && partOk x (s + x) l
def isPartition (l : List Int) : Bool := partOk 9 0 l
theorem partOk_sum {l : List Int} : ∀ {prev s : Int}, s ≤ 9 → partOk prev s l = true → s + isum l ≤ 9 ∧ s + l.length ≤ 9 ∧ ∀ x ∈ l, 1 ≤ x ∧ x ≤ 9 := by
  induction l with
  | nil => intro prev s h _; simp [isum, h]
  | cons x l ih =>
    intro prev s h hp
    simp only [partOk, Bool.and_eq_true, decide_eq_true_eq] at hp
    obtain ⟨⟨⟨h1, h2⟩, h3⟩, h4⟩ := hp
    obtain ⟨g1, g2, g3⟩ := ih h3 h4
    simp only [isum, List.length_cons]
    refine ⟨by omega, by omega, fun y hy => ?_⟩
    rcases List.mem_cons.1 hy with rfl | hy
    · exact h1
    · exact g3 y hy
theorem isPartition_bd {l : List Int} (h : isPartition l = true) : isum l ≤ 9 ∧ l.length ≤ 9 ∧ ∀ x ∈ l, 1 ≤ x ∧ x ≤ 9 := by
  obtain ⟨h1, h2, h3⟩ := partOk_sum (by omega) h
  exact ⟨by omega, by omega, h3⟩
theorem bool_not_t {X : Bool} (h : true = !X) : X = false := by cases X <;> simp_all
theorem bool_not_f {X : Bool} (h : false = !X) : X = true := by cases X <;> simp_all
/-- the number ahead of index i; 9 ahead of the first -/
def before (l : List Int) (i : Nat) : Int := match i with | 0 => 9 | i + 1 => rd l (i : Int)
theorem spec_IsPartition_ev (l : List Int) (hl : l.length ≤ 1048576) : Ev (fun k => spec_IsPartition.f k l) (isPartition l) := by
  have key : ∀ i, i ≤ l.length → ∀ s : Int, 0 ≤ s → s ≤ 9 → Ev (fun k => spec_IsPartition.l0 k l s (i : Int)) (partOk (before l i) s (l.drop i)) := by
    refine downTo l.length ?_ ?_
    · intro s a b
      refine Ev.step (fun k => by rw [spec_IsPartition.l0]) ?_
      exact ev_neg (by omega) (ev_val (by rw [List.drop_length]; rfl))
    · intro i hi ih s a b
      have hstep : ∀ c : Bool, (c = !(decide (1 ≤ rd l (i : Int) ∧ rd l (i : Int) ≤ 9) && decide (rd l (i : Int) ≤ before l i))) → Ev (fun k => spec_IsPartition.j1 k l s (i : Int) c) (partOk (before l i) s (l.drop i)) := by
        intro c hc
        refine Ev.step (fun k => by rw [spec_IsPartition.j1]) ?_
        rw [drop_rd l i hi]
        simp only [partOk]
        cases c with
        | true =>
          refine ev_pos rfl (ev_val ?_)
          have : (decide (1 ≤ rd l (i : Int) ∧ rd l (i : Int) ≤ 9) && decide (rd l (i : Int) ≤ before l i)) = false := bool_not_t hc
          rw [this]; rfl
        | false =>
          have hg : (decide (1 ≤ rd l (i : Int) ∧ rd l (i : Int) ≤ 9) && decide (rd l (i : Int) ≤ before l i)) = true := bool_not_f hc
          have h1 : 1 ≤ rd l (i : Int) ∧ rd l (i : Int) ≤ 9 := by simp only [Bool.and_eq_true, decide_eq_true_eq] at hg; exact hg.1
          rw [hg, Bool.true_and, wrap_id (i := s + rd l (i : Int)) (by omega) (by omega)]
          refine ev_neg (by simp) (ev_pos (by omega) (ev_pos (by omega) (ev_ite (fun h => ev_val ?_) (fun h => ?_))))
          · rw [decide_eq_false (by omega)]; rfl
          · rw [wrap_succ (by omega), decide_eq_true (by omega), Bool.true_and]
            exact ih _ (by omega) (by omega)
      refine Ev.step (fun k => by rw [spec_IsPartition.l0]) ?_
      refine ev_pos (by omega) (ev_pos (by omega) (ev_bindc (spec_l1In_eq _ _ _) (ev_ite (fun h => ?_) (fun h => ?_))))
      · cases i with
        | zero =>
          refine ev_neg (by omega) (hstep false ?_)
          rw [decide_eq_true_eq] at h
          have h' : rd l ((0 : Nat) : Int) ≤ before l 0 := by show _ ≤ (9 : Int); omega
          rw [decide_eq_true h, decide_eq_true h']; rfl
        | succ i =>
          have e : wrap64 (((i + 1 : Nat) : Int) - 1) = (i : Int) := by unfold wrap64; omega
          rw [e]
          refine ev_pos (by omega) (ev_pos (by omega) (ev_pos (by omega) (hstep _ ?_)))
          rw [h, Bool.true_and]
          show decide (rd l ((i + 1 : Nat) : Int) > rd l (i : Int)) = !decide (rd l ((i + 1 : Nat) : Int) ≤ rd l (i : Int))
          by_cases g : rd l ((i + 1 : Nat) : Int) ≤ rd l (i : Int)
          · rw [decide_eq_true g, decide_eq_false (by omega)]; rfl
          · rw [decide_eq_false g, decide_eq_true (by omega)]; rfl
      · refine hstep true ?_
        simp only [Bool.not_eq_true] at h
        rw [h]; rfl
  unfold spec_IsPartition.f isPartition
  have := key 0 (by omega) 0 (by omega) (by omega)
  rw [List.drop_zero] at this
  exact this
theorem impl_IsPartition_ev (l : List Int) (hl : l.length ≤ 1048576) : Ev (fun k => impl_IsPartition.f k l) (isPartition l) := by
  have key : ∀ i, i ≤ l.length → ∀ s : Int, 0 ≤ s → s ≤ 9 → Ev (fun k => impl_IsPartition.l0 k l s l (l.length : Int) (i : Int)) (partOk (before l i) s (l.drop i)) := by
    refine downTo l.length ?_ ?_
    · intro s a b
      refine Ev.step (fun k => by rw [impl_IsPartition.l0]) ?_
      exact ev_neg (by omega) (ev_val (by rw [List.drop_length]; rfl))
    · intro i hi ih s a b
      have hstep : ∀ c : Bool, (c = !(decide (1 ≤ rd l (i : Int) ∧ rd l (i : Int) ≤ 9) && decide (rd l (i : Int) ≤ before l i))) → Ev (fun k => impl_IsPartition.j1 k l s (rd l (i : Int)) l (l.length : Int) (i : Int) c) (partOk (before l i) s (l.drop i)) := by
        intro c hc
        refine Ev.step (fun k => by rw [impl_IsPartition.j1]) ?_
        rw [drop_rd l i hi]
        simp only [partOk]
        cases c with
        | true =>
          refine ev_pos rfl (ev_val ?_)
          have : (decide (1 ≤ rd l (i : Int) ∧ rd l (i : Int) ≤ 9) && decide (rd l (i : Int) ≤ before l i)) = false := bool_not_t hc
          rw [this]; rfl
        | false =>
          have hg : (decide (1 ≤ rd l (i : Int) ∧ rd l (i : Int) ≤ 9) && decide (rd l (i : Int) ≤ before l i)) = true := bool_not_f hc
          have h1 : 1 ≤ rd l (i : Int) ∧ rd l (i : Int) ≤ 9 := by simp only [Bool.and_eq_true, decide_eq_true_eq] at hg; exact hg.1
          rw [hg, Bool.true_and, wrap_id (i := s + rd l (i : Int)) (by omega) (by omega)]
          refine ev_neg (by simp) (ev_ite (fun h => ev_val ?_) (fun h => ?_))
          · rw [decide_eq_false (by omega)]; rfl
          · rw [wrap_succ (by omega), decide_eq_true (by omega), Bool.true_and]
            exact ih _ (by omega) (by omega)
      refine Ev.step (fun k => by rw [impl_IsPartition.l0]) ?_
      refine ev_pos (by omega) (ev_pos (by omega) (ev_pos (by omega) (ev_bindc (impl_within_eq _ _ _) (ev_ite (fun h => ?_) (fun h => ?_)))))
      · cases i with
        | zero =>
          refine ev_neg (by omega) (hstep false ?_)
          rw [decide_eq_true_eq] at h
          have h' : rd l ((0 : Nat) : Int) ≤ before l 0 := by show _ ≤ (9 : Int); omega
          rw [decide_eq_true h, decide_eq_true h']; rfl
        | succ i =>
          have e : wrap64 (((i + 1 : Nat) : Int) - 1) = (i : Int) := by unfold wrap64; omega
          rw [e]
          refine ev_pos (by omega) (ev_pos (by omega) (ev_pos (by omega) (hstep _ ?_)))
          rw [h, Bool.true_and]
          show decide (rd l ((i + 1 : Nat) : Int) > rd l (i : Int)) = !decide (rd l ((i + 1 : Nat) : Int) ≤ rd l (i : Int))
          by_cases g : rd l ((i + 1 : Nat) : Int) ≤ rd l (i : Int)
          · rw [decide_eq_true g, decide_eq_false (by omega)]; rfl
          · rw [decide_eq_false g, decide_eq_true (by omega)]; rfl
      · refine hstep true ?_
        simp only [Bool.not_eq_true] at h
        rw [h]; rfl
  unfold impl_IsPartition.f isPartition
  have := key 0 (by omega) 0 (by omega) (by omega)
  rw [List.drop_zero] at this
  exact this
end Go.Proofs.Ytaghidcmefbjdaa.Q

set_option linter.unusedVariables false
set_option linter.unusedSimpArgs false
namespace Go.Proofs.Ytaghidcmefbjdaa.Q
open Go.RowKit Go.Proofs.Ytaghidcmefbjdaa.F Go.Proofs.YtaghidcmefbjdaaW.PrintWords Go.Proofs.YtaghidcmefbjdaaW.PrintLast Go.Proofs.YtaghidcmefbjdaaW.PrintMore
theorem isum_ge {l : List Int} (h : ∀ x ∈ l, 1 ≤ x) : 0 ≤ isum l := isum_nonneg (fun x hx => by have := h x hx; omega)
theorem partOk_iff : ∀ (l : List Int) (prev s : Int), s ≤ 9 → (partOk prev s l = true ↔ (∀ x ∈ l, 1 ≤ x ∧ x ≤ 9) ∧ (∀ x ∈ l.head?, x ≤ prev) ∧ l.Pairwise (fun a b => b ≤ a) ∧ s + isum l ≤ 9)
  | [], prev, s, hs => by simp [partOk, isum, hs]
  | x :: l, prev, s, hs => by
    simp only [partOk, Bool.and_eq_true, decide_eq_true_eq]
    constructor
    · rintro ⟨⟨⟨h1, h2⟩, h3⟩, h4⟩
      obtain ⟨g1, g2, g3, g4⟩ := (partOk_iff l x (s + x) h3).1 h4
      refine ⟨fun y hy => ?_, by simpa using h2, List.Pairwise.cons (fun y hy => ?_) g3, by simp only [isum]; omega⟩
      · rcases List.mem_cons.1 hy with rfl | hy
        · exact h1
        · exact g1 y hy
      · cases l with
        | nil => simp at hy
        | cons z l =>
          have hz : z ≤ x := g2 z (by simp)
          rcases List.mem_cons.1 hy with rfl | hy
          · exact hz
          · have := (List.pairwise_cons.1 g3).1 y hy; omega
    · rintro ⟨h1, h2, h3, h4⟩
      have hx := h1 x (by simp)
      have hl : ∀ y ∈ l, 1 ≤ y ∧ y ≤ 9 := fun y hy => h1 y (by simp [hy])
      have h0 := isum_ge (fun y hy => (hl y hy).1)
      simp only [isum] at h4
      refine ⟨⟨⟨hx, h2 x (by simp)⟩, by omega⟩, (partOk_iff l x (s + x) (by omega)).2 ⟨hl, fun y hy => ?_, (List.pairwise_cons.1 h3).2, by omega⟩⟩
      exact (List.pairwise_cons.1 h3).1 y (List.mem_of_mem_head? hy)
theorem isum_mem_le {l : List Int} (h : ∀ x ∈ l, 1 ≤ x) : ∀ x ∈ l, x ≤ isum l := by
  induction l with
  | nil => simp
  | cons y l ih =>
    intro x hx
    have h0 := isum_ge (fun z hz => h z (List.mem_cons_of_mem _ hz))
    have hy := h y (by simp)
    simp only [isum]
    rcases List.mem_cons.1 hx with rfl | hx
    · omega
    · have := ih (fun z hz => h z (List.mem_cons_of_mem _ hz)) x hx; omega
theorem isPartition_iff {l : List Int} : isPartition l = true ↔ (∀ x ∈ l, 1 ≤ x) ∧ l.Pairwise (fun a b => b ≤ a) ∧ isum l ≤ 9 := by
  unfold isPartition
  rw [partOk_iff l 9 0 (by omega)]
  constructor
  · rintro ⟨h1, _, h3, h4⟩
    exact ⟨fun x hx => (h1 x hx).1, h3, by omega⟩
  · rintro ⟨h1, h2, h3⟩
    have h9 : ∀ x ∈ l, 1 ≤ x ∧ x ≤ 9 := fun x hx => ⟨h1 x hx, by have := isum_mem_le h1 x hx; omega⟩
    exact ⟨h9, fun x hx => (h9 x (List.mem_of_mem_head? hx)).2, h2, by omega⟩
/-- the numbers of a partition fall, and noughts follow -/
theorem isPartition_anti {p : List Int} (h : isPartition p = true) {i j : Nat} (hij : i ≤ j) : at0 p (j : Int) ≤ at0 p (i : Int) := by
  obtain ⟨h1, h2, _⟩ := isPartition_iff.1 h
  by_cases hj : j < p.length
  · rw [at0_nat p j hj, at0_nat p i (by omega), rd_eq p j hj, rd_eq p i (by omega)]
    rcases Nat.lt_or_ge i j with hlt | hge
    · exact List.pairwise_iff_getElem.1 h2 i j (by omega) hj hlt
    · have : i = j := by omega
      subst this; exact Int.le_refl _
  · rw [at0_out p j (by omega)]
    by_cases hi : i < p.length
    · rw [at0_nat p i hi]
      have := h1 _ (rd_mem p i hi); omega
    · rw [at0_out p i (by omega)]; exact Int.le_refl _
theorem isPartition_desc {p : List Int} (h : isPartition p = true) (i : Nat) (hi : i < p.length) : at0 p ((i : Int) + 1) ≤ rd p (i : Int) := by
  have := isPartition_anti h (i := i) (j := i + 1) (by omega)
  rw [at0_nat p i hi] at this
  rw [Int.natCast_add, Int.natCast_one] at this
  exact this
end Go.Proofs.Ytaghidcmefbjdaa.Q

set_option linter.unusedVariables false
set_option linter.unusedSimpArgs false
namespace Go.Proofs.Ytaghidcmefbjdaa.Q
open Go.RowKit Go.Proofs.Ytaghidcmefbjdaa.F Go.Proofs.YtaghidcmefbjdaaW.PrintWords Go.Proofs.YtaghidcmefbjdaaW.PrintLast Go.Proofs.YtaghidcmefbjdaaW.PrintMore
theorem impl_sum_ev (l : List Int) (hl : l.length ≤ 1048576) (h : ∀ x ∈ l, 0 ≤ x ∧ x ≤ 1000000) : Ev (fun k => impl_sum.f k l) (isum l) := by
  unfold impl_sum.f
  have key : ∀ i, i ≤ l.length → ∀ s : Int, 0 ≤ s → s ≤ 1000000 * i → Ev (fun k => impl_sum.l0 k s l (l.length : Int) (i : Int)) (s + isum (l.drop i)) := by
    refine downTo l.length ?_ ?_
    · intro s a b
      refine Ev.step (fun k => by rw [impl_sum.l0]) ?_
      exact ev_neg (by omega) (ev_val (by rw [List.drop_length]; simp [isum]))
    · intro i hi ih s a b
      have hx := h _ (rd_mem l i hi)
      refine Ev.step (fun k => by rw [impl_sum.l0]) ?_
      refine ev_pos (by omega) (ev_pos (by omega) (ev_pos (by omega) ?_))
      rw [wrap_succ (by omega), wrap_id (by omega) (by omega)]
      refine ev_eq (ih _ (by omega) (by omega)) ?_
      rw [drop_rd l i hi]
      simp only [isum]; omega
  have := key 0 (by omega) 0 (by omega) (by omega)
  simpa using this
end Go.Proofs.Ytaghidcmefbjdaa.Q

set_option linter.unusedVariables false
set_option linter.unusedSimpArgs false
namespace Go.Proofs.Ytaghidcmefbjdaa.Q
open Go.RowKit Go.Proofs.Ytaghidcmefbjdaa.F Go.Proofs.YtaghidcmefbjdaaW.PrintWords Go.Proofs.YtaghidcmefbjdaaW.PrintLast Go.Proofs.YtaghidcmefbjdaaW.PrintMore
def downFrom : Nat → List Nat
  | 0 => []
  | k + 1 => (k + 1) :: downFrom k
/-- the partitions of n with numbers up to m, greater ones first -/
def partsF : Nat → Nat → Nat → List (List Int)
  | 0, _, _ => [[]]
  | f + 1, n, m => if n = 0 then [[]] else (downFrom (min n m)).flatMap fun k => (partsF f (n - k) k).map (fun p => ((k : Nat) : Int) :: p)
def partsOf (n : Nat) : List (List Int) := partsF 9 n n
theorem downFrom_mem {k j : Nat} : j ∈ downFrom k ↔ 1 ≤ j ∧ j ≤ k := by
  induction k with
  | zero => simp [downFrom]; omega
  | succ k ih => simp only [downFrom, List.mem_cons, ih]; omega
theorem flatMap_len {α β : Type} (g : α → List β) (B : Nat) : ∀ (l : List α), (∀ x ∈ l, (g x).length ≤ B) → (l.flatMap g).length ≤ l.length * B
  | [], _ => by simp
  | x :: l, h => by
    have h1 := h x (by simp)
    have h2 := flatMap_len g B l (fun y hy => h y (by simp [hy]))
    rw [List.flatMap_cons, List.length_append, List.length_cons, Nat.add_mul]
    omega
theorem downFrom_length (k : Nat) : (downFrom k).length = k := by
  induction k with
  | zero => rfl
  | succ k ih => simp [downFrom, ih]
theorem partsF_len : ∀ (f n m : Nat), n ≤ 9 → (partsF f n m).length ≤ 9 ^ f
  | 0, n, m, _ => by simp [partsF]
  | f + 1, n, m, h => by
    simp only [partsF]
    by_cases h0 : n = 0
    · rw [if_pos h0]
      have : 0 < 9 ^ (f + 1) := Nat.pow_pos (by decide)
      simp only [List.length_cons, List.length_nil]
      omega
    · rw [if_neg h0]
      have h1 := flatMap_len (fun k => (partsF f (n - k) k).map (fun p => ((k : Nat) : Int) :: p)) (9 ^ f) (downFrom (min n m)) (fun k _ => by rw [List.length_map]; exact partsF_len f (n - k) k (by omega))
      rw [downFrom_length] at h1
      have h2 : min n m * 9 ^ f ≤ 9 * 9 ^ f := Nat.mul_le_mul_right _ (by omega)
      rw [Nat.pow_succ, Nat.mul_comm (9 ^ f) 9]
      omega
theorem partsF_mem : ∀ (f n m : Nat), n ≤ f → ∀ p ∈ partsF f n m, (∀ x ∈ p, 1 ≤ x ∧ x ≤ (m : Int)) ∧ p.Pairwise (fun a b => b ≤ a) ∧ isum p = (n : Int)
  | 0, n, m, h, p, hp => by
    obtain rfl : p = [] := by simpa [partsF] using hp
    obtain rfl : n = 0 := by omega
    exact ⟨by simp, List.Pairwise.nil, rfl⟩
  | f + 1, n, m, h, p, hp => by
    simp only [partsF] at hp
    by_cases h0 : n = 0
    · rw [if_pos h0] at hp
      obtain rfl : p = [] := by simpa using hp
      exact ⟨by simp, List.Pairwise.nil, by rw [h0]; rfl⟩
    · rw [if_neg h0] at hp
      obtain ⟨k, hk, hp⟩ := List.mem_flatMap.1 hp
      obtain ⟨q, hq, rfl⟩ := List.mem_map.1 hp
      have hk := downFrom_mem.1 hk
      obtain ⟨h1, h2, h3⟩ := partsF_mem f (n - k) k (by omega) q hq
      refine ⟨fun x hx => ?_, List.pairwise_cons.2 ⟨fun x hx => (h1 x hx).2, h2⟩, ?_⟩
      · rcases List.mem_cons.1 hx with rfl | hx
        · omega
        · have := h1 x hx; omega
      · simp only [isum]
        omega
theorem partsF_all : ∀ (f n m : Nat) (p : List Int), n ≤ f → (∀ x ∈ p, 1 ≤ x ∧ x ≤ (m : Int)) → p.Pairwise (fun a b => b ≤ a) → isum p = (n : Int) → p ∈ partsF f n m
  | 0, n, m, p, h, h1, h2, h3 => by
    cases p with
    | nil => simp [partsF]
    | cons x p =>
      have h4 := isum_ge (l := p) (fun y hy => (h1 y (by simp [hy])).1)
      have := (h1 x (by simp)).1
      simp only [isum] at h3
      omega
  | f + 1, n, m, p, h, h1, h2, h3 => by
    simp only [partsF]
    cases p with
    | nil =>
      simp only [isum] at h3
      rw [if_pos (by omega)]
      simp
    | cons x p =>
      have h4 := isum_ge (l := p) (fun y hy => (h1 y (by simp [hy])).1)
      have h5 := h1 x (by simp)
      simp only [isum] at h3
      rw [if_neg (by omega)]
      obtain ⟨k, rfl⟩ : ∃ k : Nat, x = (k : Int) := ⟨x.toNat, by omega⟩
      obtain ⟨p1, p2⟩ := List.pairwise_cons.1 h2
      refine List.mem_flatMap.2 ⟨k, downFrom_mem.2 ⟨by omega, by omega⟩, List.mem_map.2 ⟨p, partsF_all f (n - k) k p (by omega) (fun y hy => ⟨(h1 y (by simp [hy])).1, p1 y hy⟩) p2 (by omega), rfl⟩⟩
theorem partsOf_mem {n : Nat} (hn : n ≤ 9) {p : List Int} : p ∈ partsOf n ↔ isPartition p = true ∧ isum p = (n : Int) := by
  constructor
  · intro h
    obtain ⟨h1, h2, h3⟩ := partsF_mem 9 n n hn p h
    exact ⟨isPartition_iff.2 ⟨fun x hx => (h1 x hx).1, h2, by omega⟩, h3⟩
  · rintro ⟨h1, h2⟩
    obtain ⟨h3, h4, h5⟩ := isPartition_iff.1 h1
    exact partsF_all 9 n n p hn (fun x hx => ⟨h3 x hx, by have := isum_mem_le h3 x hx; omega⟩) h4 h2
theorem partsOf_len {n : Nat} (hn : n ≤ 9) : (partsOf n).length ≤ 387420489 := partsF_len 9 n n hn
theorem partsF_row {f n m : Nat} (h : n ≤ f) (hn : n ≤ 9) : ∀ p ∈ partsF f n m, p.length ≤ 9 := fun p hp => by
  obtain ⟨h1, h2, h3⟩ := partsF_mem f n m h p hp
  exact (isPartition_bd (isPartition_iff.2 ⟨fun x hx => (h1 x hx).1, h2, by omega⟩)).2.1
def partsG (f n : Nat) (k : Nat) : List (List Int) := (partsF f (n - k) k).map (fun p => ((k : Nat) : Int) :: p)
theorem partsG_len {f n : Nat} (k : Nat) (hf : f ≤ 8) (hn : n ≤ 9) : (partsG f n k).length ≤ 43046721 := by
  unfold partsG
  rw [List.length_map]
  have h1 := partsF_len f (n - k) k (by omega)
  have h2 : 9 ^ f ≤ 9 ^ 8 := Nat.pow_le_pow_right (by decide) hf
  have h3 : (9 : Nat) ^ 8 = 43046721 := by decide
  omega
theorem l2All_ev : ∀ (f n m : Nat), n ≤ f → f ≤ 9 → n ≤ 9 → m ≤ 9 → Ev (fun k => spec_l2All.f k (n : Int) (m : Int)) (partsF f n m)
  | 0, n, m, h, _, _, _ => by
    obtain rfl : n = 0 := by omega
    refine Ev.step (fun k => by rw [spec_l2All.f]) ?_
    exact ev_bindc rfl (ev_pos rfl (ev_pos (by simp) (ev_val rfl)))
  | f + 1, n, m, h, hf, hn, hm => by
    refine Ev.step (fun k => by rw [spec_l2All.f]) (ev_bindc rfl ?_)
    by_cases h0 : n = 0
    · subst h0
      exact ev_pos rfl (ev_pos (by simp) (ev_val (by simp [partsF])))
    · refine ev_neg (by omega) (ev_bindc (b := ((min n m : Nat) : Int)) ?_ ?_)
      · unfold spec_l1Min.f
        by_cases hlt : (n : Int) < (m : Int)
        · rw [if_pos hlt, Nat.min_eq_left (by omega)]
        · rw [if_neg hlt, Nat.min_eq_right (by omega)]
      · have key : ∀ (k : Nat) (acc : List (List Int)), k ≤ n → k ≤ m → acc.length + k * 43046721 ≤ 400000000 → Ev (fun q => spec_l2All.l0 q (n : Int) acc (k : Int)) (acc ++ (downFrom k).flatMap (partsG f n)) := by
          intro k
          induction k with
          | zero =>
            intro acc _ _ _
            exact Ev.step (fun q => by rw [spec_l2All.l0]) (ev_neg (by omega) (ev_val (by simp [downFrom])))
          | succ k ih =>
            intro acc h1 h2 h3
            have hIH := l2All_ev f (n - (k + 1)) (k + 1) (by omega) (by omega) (by omega) (by omega)
            have hGl := partsG_len (f := f) (n := n) (k + 1) (by omega) hn
            have hrow := partsF_row (f := f) (n := n - (k + 1)) (m := k + 1) (by omega) (by omega)
            have hGe : partsG f n (k + 1) = (partsF f (n - (k + 1)) (k + 1)).map (fun p => ((k + 1 : Nat) : Int) :: p) := rfl
            rw [hGe, List.length_map] at hGl
            obtain ⟨X, hX⟩ : ∃ X, partsF f (n - (k + 1)) (k + 1) = X := ⟨_, rfl⟩
            rw [hX] at hIH hGl hrow hGe
            refine Ev.step (fun q => by rw [spec_l2All.l0]) (ev_pos (by omega) ?_)
            have ew : wrap64 ((n : Int) - ((k + 1 : Nat) : Int)) = ((n - (k + 1) : Nat) : Int) := by rw [wrap_id (by omega) (by omega)]; omega
            rw [ew]
            refine Ev.bind hIH ?_
            have inner : ∀ d i : Nat, i + d = X.length → Ev (fun q => spec_l2All.l1 q (n : Int) (acc ++ (X.take i).map (fun p => ((k + 1 : Nat) : Int) :: p)) ((k + 1 : Nat) : Int) X (i : Int)) (acc ++ (downFrom (k + 1)).flatMap (partsG f n)) := by
              intro d
              induction d with
              | zero =>
                intro i hi
                obtain rfl : i = X.length := by omega
                refine Ev.step (fun q => by rw [spec_l2All.l1]) (ev_neg (by omega) ?_)
                have e1 : wrap64 (((k + 1 : Nat) : Int) - 1) = (k : Int) := by rw [wrap_id (by omega) (by omega)]; omega
                have h5 := ih (acc ++ X.map (fun p => ((k + 1 : Nat) : Int) :: p)) (by omega) (by omega) (by rw [List.length_append, List.length_map]; omega)
                rw [e1, List.take_length]
                refine ev_eq h5 ?_
                simp only [downFrom]
                rw [List.flatMap_cons, hGe, List.append_assoc]
              | succ d ihd =>
                intro i hi
                have hil : i < X.length := by omega
                have h9 := hrow _ (rows_mem X i hil)
                refine Ev.step (fun q => by rw [spec_l2All.l1]) (ev_pos (by omega) ?_)
                refine ev_bindc rfl ?_
                refine ev_pos (by omega) (ev_pos (by simp only [List.length_cons, List.length_nil]; omega) (ev_pos (by rw [List.length_append, List.length_map, List.length_take]; omega) ?_))
                rw [wrap_succ (by omega)]
                have h5 := ihd (i + 1) (by omega)
                rw [take_rows X i hil, List.map_append, ← List.append_assoc] at h5
                exact h5
            have h6 := inner X.length 0 (by omega)
            rw [List.take_zero, List.map_nil, List.append_nil] at h6
            exact h6
        have h7 := key (min n m) [] (by omega) (by omega) (by simp only [List.length_nil]; omega)
        refine ev_eq h7 ?_
        simp only [partsF]
        rw [if_neg h0]
        rfl
theorem spec_PartitionsOf_ev (n : Nat) (hn : n ≤ 9) : Ev (fun k => spec_PartitionsOf.f k (n : Int)) (partsOf n) := by
  unfold spec_PartitionsOf.f
  refine ev_bindc (b := true) ?_ (ev_pos rfl (Ev.bind (l2All_ev 9 n n hn (Nat.le_refl _) hn hn) (ev_val rfl)))
  unfold spec_l1In.f
  rw [if_pos (by omega)]
  simp
  omega
theorem isum_ones (n : Nat) : isum (List.replicate n 1) = (n : Int) := by
  induction n with
  | zero => rfl
  | succ n ih => simp only [List.replicate_succ, isum, ih]; omega
theorem partsF_pos {f n m : Nat} (h : n ≤ f) (hm : 1 ≤ m) : 0 < (partsF f n m).length :=
  List.length_pos_of_mem (partsF_all f n m (List.replicate n 1) h (fun x hx => by have := (List.mem_replicate.1 hx).2; omega) (List.pairwise_replicate.2 (.inr (Int.le_refl 1))) (isum_ones n))
theorem partsOf_pos {n : Nat} (hn : n ≤ 9) : 0 < (partsOf n).length := by
  by_cases h : n = 0
  · subst h; decide
  · exact partsF_pos hn (by omega)
end Go.Proofs.Ytaghidcmefbjdaa.Q

set_option linter.unusedVariables false
set_option linter.unusedSimpArgs false
namespace Go.Proofs.Ytaghidcmefbjdaa.Q
open Go.RowKit Go.Proofs.Ytaghidcmefbjdaa.F Go.Proofs.YtaghidcmefbjdaaW.PrintWords Go.Proofs.YtaghidcmefbjdaaW.PrintLast Go.Proofs.YtaghidcmefbjdaaW.PrintMore
structure Ob where
  ok : Nat → Prop
  P : World → Prop
/-- the object stays while its blocks do -/
def Firm (o : Ob) : Prop := ∀ W W' : World, o.P W → (∀ k, o.ok k → k < W.heap.size → W'.heap[k]? = W.heap[k]?) → o.P W'
structure St (w W : World) (L : List Ob) : Prop where
  below : Below w.heap.size w W
  own : ∀ o ∈ L, (∀ k, o.ok k → w.heap.size ≤ k ∧ k < W.heap.size) ∧ o.P W ∧ Firm o
  apart : L.Pairwise (fun a b => ∀ k, a.ok k → ¬ b.ok k)
def obR {α : Type} (d : Kd α) (t : Nat) (w : World) (ok : Nat → Prop) (v : Value) (xs : List α) : Ob := ⟨ok, fun W => Kd.R d t W w.heap.size ok v xs⟩
def obS {α : Type} (d : Kd α) (t : Nat) (w : World) (ok : Nat → Prop) (v : Value) (xs : List α) : Ob := ⟨ok, fun W => Kd.S d t W w.heap.size ok v xs⟩
section
variable {α β : Type} {d : Kd α} {d' : Kd β} {t t' : Nat} {w W W' : World} {ok ok' okq : Nat → Prop} {v v' : Value} {xs : List α} {ys : List β} {L L' : List Ob} {o o' : Ob}
theorem firmR : Firm (obR d t w ok v xs) := fun _ _ h hm => Kd.R_step h hm
theorem firmS : Firm (obS d t w ok v xs) := fun _ _ h hm => Kd.S_step h hm
theorem St.start (w : World) : St w w [] := ⟨Below.refl _ _, fun _ h => by simp at h, List.Pairwise.nil⟩
theorem St.quiet (h : St w W L) (hb : Below W.heap.size W W') : St w W' L := by
  have hs := h.below.size
  refine ⟨below_then h.below hs hb, fun o ho => ?_, h.apart⟩
  obtain ⟨h1, h2, h3⟩ := h.own o ho
  exact ⟨fun k hk => ⟨(h1 k hk).1, Nat.lt_of_lt_of_le (h1 k hk).2 hb.size⟩, h3 W W' h2 (fun k _ hk => hb.block k hk), h3⟩
theorem St.drawn (h : St w W L) (hd : Drawn0 W W') : St w W' L := h.quiet hd.below
theorem St.add (h : St w W L) (hb : Below W.heap.size W W') (hn : ∀ k, o.ok k → W.heap.size ≤ k ∧ k < W'.heap.size) (hP : o.P W') (hf : Firm o) : St w W' (o :: L) := by
  have hq := h.quiet hb
  have hs := h.below.size
  refine ⟨hq.below, fun p hp => ?_, List.Pairwise.cons (fun p hp k hk hk2 => ?_) hq.apart⟩
  · rcases List.mem_cons.1 hp with rfl | hp
    · exact ⟨fun k hk => ⟨Nat.le_trans hs (hn k hk).1, (hn k hk).2⟩, hP, hf⟩
    · exact hq.own p hp
  · have := (h.own p hp).1 k hk2
    have := hn k hk
    omega
theorem St.addR (h : St w W L) (hb : Below W.heap.size W W') (hr : Kd.R d t W' W.heap.size ok v xs) : ∃ ok1, St w W' (obR d t w ok1 v xs :: L) :=
  ⟨_, h.add (o := obR d t w (fun k => W.heap.size ≤ k ∧ k < W'.heap.size) v xs) hb (fun _ hk => hk) (Kd.R_mono (Kd.R_lower (Kd.R_bound hr) h.below.size) (fun k hk => ⟨hk.2.1, hk.2.2.1⟩)) firmR⟩
theorem St.addS (h : St w W L) (hb : Below W.heap.size W W') (hr : Kd.S d t W' W.heap.size ok v xs) : ∃ ok1, St w W' (obS d t w ok1 v xs :: L) :=
  ⟨_, h.add (o := obS d t w (fun k => W.heap.size ≤ k ∧ k < W'.heap.size) v xs) hb (fun _ hk => hk) (Kd.S_mono (Kd.S_lower (Kd.S_bound hr) h.below.size) (fun k hk => ⟨hk.2.1, hk.2.2.1⟩)) firmS⟩
/-- two made at once, apart -/
theorem St.add2 (h : St w W L) (hb : Below W.heap.size W W') (hn : ∀ k, o.ok k → W.heap.size ≤ k ∧ k < W'.heap.size) (hP : o.P W') (hf : Firm o) (hn' : ∀ k, o'.ok k → W.heap.size ≤ k ∧ k < W'.heap.size) (hP' : o'.P W') (hf' : Firm o')
    (ha : ∀ k, o.ok k → ¬ o'.ok k) : St w W' (o :: o' :: L) := by
  have h1 := h.add hb hn' hP' hf'
  have hs := h.below.size
  refine ⟨h1.below, fun p hp => ?_, List.Pairwise.cons (fun p hp k hk hk2 => ?_) h1.apart⟩
  · rcases List.mem_cons.1 hp with rfl | hp
    · exact ⟨fun k hk => ⟨Nat.le_trans hs (hn k hk).1, (hn k hk).2⟩, hP, hf⟩
    · exact h1.own p hp
  · rcases List.mem_cons.1 hp with rfl | hp
    · exact ha k hk hk2
    · have := (h.own p hp).1 k hk2
      have := hn k hk
      omega
theorem St.addRS (hE : d.E = []) (h : St w W L) (hb : Below W.heap.size W W') (hr : Kd.R d t W' W.heap.size (fun _ => True) v xs) (hr' : Kd.S d' t' W' W.heap.size (fun k => some k ≠ v.ownBlock) v' ys) : ∃ ok1 ok2, St w W' (obR d t w ok1 v xs :: obS d' t' w ok2 v' ys :: L) := by
  have hs := h.below.size
  refine ⟨_, _, h.add2 (o := obR d t w (fun k => some k = v.ownBlock ∧ W.heap.size ≤ k ∧ k < W'.heap.size) v xs) (o' := obS d' t' w (fun k => some k ≠ v.ownBlock ∧ W.heap.size ≤ k ∧ k < W'.heap.size) v' ys) hb (fun _ hk => hk.2) ?_ firmR (fun _ hk => hk.2) ?_ firmS (fun _ hk hk2 => hk2.1 hk.1)⟩
  · exact Kd.R_mono (Kd.R_lower (Kd.R_bound (Kd.R_tight hE hr)) hs) (fun k hk => ⟨hk.1, hk.2.1, hk.2.2.1⟩)
  · exact Kd.S_mono (Kd.S_lower (Kd.S_bound hr') hs) (fun k hk => ⟨hk.1, hk.2.1, hk.2.2.1⟩)
theorem St.get (h : St w W L) (i : Nat) (hi : L[i]? = some o) : o.P W := (h.own o (List.mem_of_getElem? hi)).2.1
theorem St.mark (h : St w W L) (i : Nat) (hi : L[i]? = some o) (he : o'.ok = o.ok) (hf : Firm o') (hb : Below w.heap.size w W') (hk : Kept W W' o.ok) (hP : o'.P W') (hL : L.set i o' = L') : St w W' L' := by
  subst hL
  have hil := (List.getElem?_eq_some_iff.1 hi).1
  have hio := (List.getElem?_eq_some_iff.1 hi).2
  have hap : ∀ a b, a < L.length → (hb : b < L.length) → a ≠ b → ∀ x y, L[a]? = some x → L[b]? = some y → ∀ k, x.ok k → ¬ y.ok k := by
    intro a b ha hb hne x y hx hy k hxk hyk
    have hp := List.pairwise_iff_getElem.1 h.apart
    rcases Nat.lt_or_gt_of_ne hne with hlt | hlt
    · have := hp a b ha hb hlt k
      rw [List.getElem?_eq_getElem ha] at hx
      rw [List.getElem?_eq_getElem hb] at hy
      injection hx with hx; injection hy with hy
      rw [hx, hy] at this
      exact this hxk hyk
    · have := hp b a hb ha hlt k
      rw [List.getElem?_eq_getElem ha] at hx
      rw [List.getElem?_eq_getElem hb] at hy
      injection hx with hx; injection hy with hy
      rw [hx, hy] at this
      exact this hyk hxk
  refine ⟨hb, fun p hp => ?_, List.pairwise_iff_getElem.2 fun a b ha hb' hlt k => ?_⟩
  · obtain ⟨j, hj, rfl⟩ := List.mem_iff_getElem.1 hp
    rw [List.length_set] at hj
    by_cases hji : i = j
    · subst hji
      rw [List.getElem_set_self]
      have h1 := (h.own o (List.mem_of_getElem? hi)).1
      exact ⟨fun k hk' => ⟨(h1 k (he ▸ hk')).1, Nat.lt_of_lt_of_le (h1 k (he ▸ hk')).2 hk.1⟩, hP, hf⟩
    · rw [List.getElem_set_ne hji]
      obtain ⟨h1, h2, h3⟩ := h.own L[j] (List.getElem_mem hj)
      exact ⟨fun k hk' => ⟨(h1 k hk').1, Nat.lt_of_lt_of_le (h1 k hk').2 hk.1⟩, h3 W W' h2 (fun k hk' hlt => hk.2 k hlt (hap j i hj hil (Ne.symm hji) _ _ (List.getElem?_eq_getElem hj) hi k hk')), h3⟩
  · rw [List.length_set] at ha hb'
    have hx : ∀ j (hj : j < L.length) (hj' : j < (L.set i o').length), ((L.set i o')[j]).ok = (L[j]).ok := by
      intro j hj hj'
      by_cases hji : i = j
      · subst hji; rw [List.getElem_set_self, he, hio]
      · rw [List.getElem_set_ne hji]
    rw [hx a ha, hx b hb']
    exact List.pairwise_iff_getElem.1 h.apart a b ha hb' hlt k
/-- what an object is, read -/
def Reads (d : Kd α) (W : World) (v : Value) (xs : List α) : Prop := ∃ A c, v = .slice A xs.length c ∧ xs.length ≤ c ∧ d.C W A xs.length xs
theorem St.readR (h : St w W L) (i : Nat) (hi : L[i]? = some (obR d t w ok v xs)) : Reads d W v xs := Kd.R_reads (h.get i hi)
theorem St.readS (h : St w W L) (i : Nat) (hi : L[i]? = some (obS d t w ok v xs)) : Reads d W v xs := Kd.R_reads (Kd.S_R (h.get i hi))
/-- what came in, read -/
theorem St.came (h : St w W L) {A : Option Addr} {c : Nat} (hr : d.C w A xs.length xs) (hc : xs.length ≤ c) : Reads d W (.slice A xs.length c) xs := ⟨A, c, rfl, hc, Kd.C_below hr h.below⟩
end
end Go.Proofs.Ytaghidcmefbjdaa.Q

set_option linter.unusedVariables false
set_option linter.unusedSimpArgs false
namespace Go.Proofs.Ytaghidcmefbjdaa.Q
open Go.RowKit Go.Proofs.Ytaghidcmefbjdaa.F Go.Proofs.YtaghidcmefbjdaaW.PrintWords Go.Proofs.YtaghidcmefbjdaaW.PrintLast Go.Proofs.YtaghidcmefbjdaaW.PrintMore
section
variable {w W W' : World} {L L' : List Ob} {o : Ob}
theorem St.drop (h : St w W (o :: L)) : St w W L := ⟨h.below, fun p hp => h.own p (List.mem_cons_of_mem _ hp), (List.pairwise_cons.1 h.apart).2⟩
/-- a variable in memory -/
def obB (b : Nat) (cs : Array Value) (t : Nat) : Ob := ⟨fun k => k = b, fun W => W.heap[b]? = some (.cells cs t (0, 0))⟩
theorem firmB {b : Nat} {cs : Array Value} {t : Nat} : Firm (obB b cs t) := fun _ _ h hm => (hm b rfl (blk_lt h)).trans h
theorem St.cellB (h : St w W L) {b t : Nat} {cs : Array Value} (i : Nat) (hi : L[i]? = some (obB b cs t)) (j : Nat) {v : Value} (hv : cs[j]? = some v) : W.cell? ⟨b, j, none⟩ = some v := (blk_cell (show W.heap[b]? = some (.cells cs t (0, 0)) from h.get i hi) j).trans hv
theorem St.box (h : St w W L) (cs : Array Value) (t : Nat) : St w (W.alloc (.cells cs t (0, 0))) (obB W.heap.size cs t :: L) := by
  have e1 : (W.alloc (.cells cs t (0, 0))).heap.size = W.heap.size + 1 := by show (W.heap.push _).size = _; exact Array.size_push ..
  refine h.add (o := obB W.heap.size cs t) (below_alloc (Below.refl _ _) _) (fun k hk => ?_) ?_ firmB
  · have h1 : k = W.heap.size := hk
    omega
  · show (W.heap.push _)[W.heap.size]? = _
    exact Array.getElem?_push_size
end
end Go.Proofs.Ytaghidcmefbjdaa.Q

set_option linter.unusedVariables false
set_option linter.unusedSimpArgs false
namespace Go.Proofs.Ytaghidcmefbjdaa.Q
open Go.RowKit Go.Proofs.Ytaghidcmefbjdaa.F Go.Proofs.YtaghidcmefbjdaaW.PrintWords Go.Proofs.YtaghidcmefbjdaaW.PrintLast Go.Proofs.YtaghidcmefbjdaaW.PrintMore
section
variable {w W w1 : World} {L : List Ob}
/-- the first objects are done anew, out of their blocks and new ones -/
theorem St.redo {P P' : List Ob} (h : St w W (P ++ L)) (hK : Kept W w1 (fun k => ∃ p ∈ P, p.ok k)) (hB : Below w.heap.size w w1)
    (hP : ∀ o ∈ P', (∀ k, o.ok k → ((∃ p ∈ P, p.ok k) ∨ W.heap.size ≤ k) ∧ w.heap.size ≤ k ∧ k < w1.heap.size) ∧ o.P w1 ∧ Firm o) (ha : P'.Pairwise (fun a b => ∀ k, a.ok k → ¬ b.ok k)) : St w w1 (P' ++ L) := by
  obtain ⟨_, hL, hPL⟩ := List.pairwise_append.1 h.apart
  refine ⟨hB, fun o ho => ?_, List.pairwise_append.2 ⟨ha, hL, fun a haP b hb k hak hbk => ?_⟩⟩
  · rcases List.mem_append.1 ho with ho | ho
    · obtain ⟨h1, h2, h3⟩ := hP o ho
      exact ⟨fun k hk => (h1 k hk).2, h2, h3⟩
    · obtain ⟨h1, h2, h3⟩ := h.own o (List.mem_append_right _ ho)
      exact ⟨fun k hk => ⟨(h1 k hk).1, Nat.lt_of_lt_of_le (h1 k hk).2 hK.1⟩, h3 W w1 h2 (fun k hk hlt => hK.2 k hlt (fun ⟨p, hp, hpk⟩ => hPL p hp o ho k hpk hk)), h3⟩
  · rcases ((hP a haP).1 k hak).1 with ⟨p, hp, hpk⟩ | hnew
    · exact hPL p hp b hb k hpk hbk
    · have := ((h.own b (List.mem_append_right _ hb)).1 k hbk).2
      omega
theorem St.perm_ {L' : List Ob} (h : St w W L) (hp : List.Perm L L') : St w W L' :=
  ⟨h.below, fun o ho => h.own o (hp.mem_iff.2 ho), (hp.pairwise_iff (fun hab k hb ha => hab k ha hb)).1 h.apart⟩
/-- an object is given up -/
theorem St.drop_ {o : Ob} (h : St w W (o :: L)) : St w W L := ⟨h.below, fun p hp => h.own p (List.mem_cons_of_mem _ hp), (List.pairwise_cons.1 h.apart).2⟩
theorem St.less {L' : List Ob} (h : St w W L) (hs : List.Sublist L' L) : St w W L' := ⟨h.below, fun p hp => h.own p (hs.subset hp), h.apart.sublist hs⟩
theorem St.size_le (h : St w W L) : w.heap.size ≤ W.heap.size := h.below.size
end
/-- in place: one object is done anew, out of its blocks and new ones -/
theorem St.redo1 {w W w1 : World} {L : List Ob} {o o' : Ob} (h : St w W L) (n : Nat) (hn : L[n]? = some o) (hK : Kept W w1 o.ok) (hB : Below w.heap.size w w1)
    (hP : (∀ k, o'.ok k → (o.ok k ∨ W.heap.size ≤ k) ∧ w.heap.size ≤ k ∧ k < w1.heap.size) ∧ o'.P w1 ∧ Firm o') : St w w1 (L.set n o') := by
  obtain ⟨hnl, hno⟩ := List.getElem?_eq_some_iff.1 hn
  have e0 : L = L.take n ++ o :: L.drop (n + 1) := by rw [← hno, ← List.drop_eq_getElem_cons hnl, List.take_append_drop]
  have e1 : List.Perm L ([o] ++ (L.take n ++ L.drop (n + 1))) := by
    have := List.perm_middle (a := o) (l₁ := L.take n) (l₂ := L.drop (n + 1))
    rwa [← e0] at this
  have e2 : List.Perm ([o'] ++ (L.take n ++ L.drop (n + 1))) (L.set n o') := by
    rw [List.set_eq_take_append_cons_drop, if_pos hnl]
    exact (List.perm_middle (a := o') (l₁ := L.take n) (l₂ := L.drop (n + 1))).symm
  refine St.perm_ (St.redo (St.perm_ h e1) (w1 := w1) (P' := [o']) ⟨hK.1, fun k hk hp => hK.2 k hk (fun ho => hp ⟨o, by simp, ho⟩)⟩ hB ?_ (List.pairwise_singleton _ _)) e2
  intro q hq
  obtain rfl := List.mem_singleton.1 hq
  exact ⟨fun k hk => ⟨(hP.1 k hk).1.imp (fun h1 => ⟨o, by simp, h1⟩) id, (hP.1 k hk).2⟩, hP.2⟩
section
variable {ops : Array Oper} {rest : List Oper} {oi : Oper} {a : Act} {Q : Exit → Act → World → Prop} {Kc : Act → World → Prop} {w W : World} {L : List Ob} {α : Type} {d : Kd α} {o0 : Ob} {ok : Nat → Prop} {v : Value} {xs : List α} {p : α} {cs : List Value} {e t : Nat}
theorem St.pushed {w1 : World} {v1 : Value} (h : St w W (o0 :: obS d e w ok v xs :: L)) (hS : Kd.S d e w1 w.heap.size (fun k => (ok k ∨ o0.ok k) ∨ W.heap.size ≤ k) v1 (xs ++ [p])) (hB : Below w.heap.size w w1) (hg : W.grownBy w1 v.ownBlock) : ∃ ok1, St w w1 (obS d e w ok1 v1 (xs ++ [p]) :: L) := by
  have hv := (Kd.S_R (show Kd.S d e W w.heap.size ok v xs from h.get 1 rfl)).1
  refine ⟨fun k => ((ok k ∨ o0.ok k) ∨ W.heap.size ≤ k) ∧ w.heap.size ≤ k ∧ k < w1.heap.size, St.redo (P := [o0, obS d e w ok v xs]) (P' := [obS d e w _ v1 (xs ++ [p])]) h ⟨hg.size, fun k hk hn => hg.block k hk (fun e2 => hn ⟨obS d e w ok v xs, by simp, hv k e2.symm⟩)⟩ hB ?_ (List.pairwise_singleton _ _)⟩
  intro q hq
  obtain rfl := List.mem_singleton.1 hq
  refine ⟨fun k hk => ⟨?_, hk.2⟩, Kd.S_mono (Kd.S_bound hS) (fun k hk => ⟨hk.1, hk.2.1, hk.2.2.1⟩), firmS⟩
  rcases hk.1 with (h1 | h1) | h1
  · exact .inl ⟨obS d e w ok v xs, by simp, h1⟩
  · exact .inl ⟨o0, by simp, h1⟩
  · exact .inr h1
/-- append(v, row): the row is the list's from here on -/
theorem St.push (hgd : oi.guard = none) (s x : Operand) (ho : oi.op = .call { callee := .builtin .append, args := #[s, x], argTypes := #[t, t] }) (ht : (Try.prog).underlying t = some (.slice e)) (z : Value) (bytes : Nat) (hinfo : ((Try.prog).info? e).map (fun i => (i.zero, i.size, i.bytes)) = some (some z, d.sz, bytes)) (hz : z.cells.size = d.sz) (hs0 : 0 < d.sz) (hb0 : 0 < bytes)
    (h : St w W (o0 :: obS d e w ok v xs :: L)) (hs : a.eval s = v) (hx : a.eval x = .slice (some ⟨W.heap.size, 0, none⟩) 1 1) (hM : d.M W w.heap.size o0.ok p cs) (hl : (xs.length + 1) * bytes ≤ 140737488355328)
    (hk : ∀ v1 w1 ok1, St w w1 (obS d e w ok1 v1 (xs ++ [p]) :: L) → wpList Try.prog ops Q rest (a.put oi.dst v1) w1) :
    wpList Try.prog ops Q (oi :: rest) a (W.alloc (.cells cs.toArray e)) := by
  have hap : ∀ k, o0.ok k → ¬ ok k := (List.pairwise_cons.1 h.apart).1 (obS d e w ok v xs) (by simp)
  have hS : Kd.S d e W w.heap.size ok v xs := h.get 1 rfl
  have hlt : ∀ k, ok k → k < W.heap.size := fun k hk => ((h.own (obS d e w ok v xs) (by simp)).1 k hk).2
  have hlt0 : ∀ k, o0.ok k → k < W.heap.size := fun k hk => ((h.own o0 (by simp)).1 k hk).2
  refine Kd.S_append d (w0 := w) w.heap.size hgd s x t e z bytes ho ht hinfo hz hs0 hb0 v xs p cs (fun k => (ok k ∨ o0.ok k) ∨ W.heap.size ≤ k) o0.ok hs hx hM (fun k hk => ⟨.inl (.inr hk), fun e2 => hap k hk ((Kd.S_R hS).1 k e2.symm)⟩) (fun k hk => .inr hk) (Kd.S_mono hS (fun k hk => ⟨.inl (.inl hk), fun h2 => hap k h2 hk⟩)) h.below h.below.size hl ?_
  intro v1 w1 hS1 hB hg _
  obtain ⟨ok1, h1⟩ := St.pushed h hS1 hB hg
  exact hk v1 w1 ok1 h1
/-- the same as a step of a region that draws -/
theorem St.push_step (hw : Region.wanted oi (yielded ops a.tmps) = true) (s x : Operand) (ho : oi.op = .call { callee := .builtin .append, args := #[s, x], argTypes := #[t, t] }) (ht : (Try.prog).underlying t = some (.slice e)) (z : Value) (bytes : Nat) (hinfo : ((Try.prog).info? e).map (fun i => (i.zero, i.size, i.bytes)) = some (some z, d.sz, bytes)) (hz : z.cells.size = d.sz) (hs0 : 0 < d.sz) (hb0 : 0 < bytes)
    (h : St w W (o0 :: obS d e w ok v xs :: L)) (hs : a.eval s = v) (hx : a.eval x = .slice (some ⟨W.heap.size, 0, none⟩) 1 1) (hM : d.M W w.heap.size o0.ok p cs) (hl : (xs.length + 1) * bytes ≤ 140737488355328)
    (hk : ∀ v1 w1 ok1, St w w1 (obS d e w ok1 v1 (xs ++ [p]) :: L) → Kc (a.put oi.dst v1) w1) :
    if Region.wanted oi (yielded ops a.tmps) = true then Oper.wp Try.prog oi a (W.alloc (.cells cs.toArray e)) Kc Q else Kc (a.put oi.dst undef) (W.alloc (.cells cs.toArray e)) := by
  have hap : ∀ k, o0.ok k → ¬ ok k := (List.pairwise_cons.1 h.apart).1 (obS d e w ok v xs) (by simp)
  have hS : Kd.S d e W w.heap.size ok v xs := h.get 1 rfl
  refine Kd.S_append_step d (w0 := w) w.heap.size hw s x t e z bytes ho ht hinfo hz hs0 hb0 v xs p cs (fun k => (ok k ∨ o0.ok k) ∨ W.heap.size ≤ k) o0.ok hs hx hM (fun k hk => ⟨.inl (.inr hk), fun e2 => hap k hk ((Kd.S_R hS).1 k e2.symm)⟩) (fun k hk => .inr hk) (Kd.S_mono hS (fun k hk => ⟨.inl (.inl hk), fun h2 => hap k h2 hk⟩)) h.below h.below.size hl ?_
  intro v1 w1 hS1 hB hg _
  obtain ⟨ok1, h1⟩ := St.pushed h hS1 hB hg
  exact hk v1 w1 ok1 h1
/-- append(v, x) of a whole number -/
theorem St.put1 {xs : List Int} {x : Int} {bb c : Nat} (hgd : oi.guard = none) (s y : Operand) (ho : oi.op = .call { callee := .builtin .append, args := #[s, y], argTypes := #[22, 22] })
    (h : St w W L) (n : Nat) (hn : L[n]? = some (obR (Kd.int .i64) 3 w ok v xs)) (hs : a.eval s = v) (hx : a.eval y = .slice (some ⟨W.heap.size, 0, none⟩) 1 1) (hl : (xs.length + 1) * 8 ≤ 140737488355328)
    (hk : ∀ v1 w1 ok1, St w w1 (L.set n (obR (Kd.int .i64) 3 w ok1 v1 (xs ++ [x]))) → wpList Try.prog ops Q rest (a.put oi.dst v1) w1) :
    wpList Try.prog ops Q (oi :: rest) a (W.alloc (.cells #[.int .i64 x] 3)) := by
  have hR : Kd.R (Kd.int .i64) 3 W w.heap.size ok v xs := h.get n hn
  refine Kd.R_append (Kd.int .i64) (w0 := w) w.heap.size hgd s y 22 3 (.int .i64 0) 8 ho Try.underlying22 info3 rfl (by decide) (by omega) v xs x [.int .i64 x] (fun k => ok k ∨ W.heap.size ≤ k) (fun _ => False) hs hx rfl (fun _ h => h.elim) (fun _ h => .inr h) (Kd.R_mono hR (fun k hk => .inl hk)) h.below h.below.size hl ?_
  intro v1 w1 hR1 hB hg _
  exact hk v1 w1 _ (St.redo1 (o' := obR (Kd.int .i64) 3 w (fun k => (ok k ∨ W.heap.size ≤ k) ∧ w.heap.size ≤ k ∧ k < w1.heap.size) v1 (xs ++ [x])) h n hn ⟨hg.size, fun k hk hne => hg.block k hk (fun e2 => hne (hR.1 k e2.symm))⟩ hB ⟨fun k hk => hk, Kd.R_mono (Kd.R_bound hR1) (fun k hk => ⟨hk.1, hk.2.1, hk.2.2.1⟩), firmR⟩)
end
section
variable {w W : World} {L : List Ob} {ok : Nat → Prop} {v : Value} {xs : List (List Int)}
/-- a row of a list, lent: where it lies, and what the list is once the row is a part of itself or a number in it is another -/
theorem St.lendS (h : St w W L) (n : Nat) (hn : L[n]? = some (obS (Kd.slice 3 (Kd.int .i64)) 22 w ok v xs)) (i : Nat) (hi : i < xs.length) {r : List Int} (hr : xs[i] = r) :
    ∃ g c A1 c1, v = .slice (some ⟨g, 0, none⟩) xs.length c ∧ w.heap.size ≤ g ∧ W.cell? ⟨g, i, none⟩ = some (.slice A1 r.length c1) ∧ W.frozen? ⟨g, i, none⟩ = false ∧ r.length ≤ c1 ∧ Reads (Kd.int .i64) W (.slice A1 r.length c1) r ∧
      (0 < r.length → ∃ g1, A1 = some ⟨g1, 0, none⟩ ∧ w.heap.size ≤ g1) ∧
      (∀ j g1, j < r.length → A1 = some ⟨g1, 0, none⟩ → W.cell? ⟨g1, j, none⟩ = some (.int .i64 (rd r (j : Int))) ∧ W.frozen? ⟨g1, j, none⟩ = false ∧ ∀ x : Int, St w (W.setCell ⟨g1, j, none⟩ (.int .i64 x)) (L.set n (obS (Kd.slice 3 (Kd.int .i64)) 22 w ok v (xs.set i (r.set j x))))) ∧
      (∀ m, m ≤ r.length → St w (W.setCell ⟨g, i, none⟩ (.slice A1 m c1)) (L.set n (obS (Kd.slice 3 (Kd.int .i64)) 22 w ok v (xs.set i (r.take m))))) := by
  subst hr
  have hS : Kd.S (Kd.slice 3 (Kd.int .i64)) 22 W w.heap.size ok v xs := h.get n hn
  have hw := (h.own _ (List.mem_of_getElem? hn)).1
  obtain ⟨A, c, rfl⟩ := Kd.R_slice (Kd.S_R hS)
  obtain ⟨g, c', e0, _⟩ := Kd.R_form (Kd.S_R hS) (by omega)
  injection e0 with ea _ _
  subst ea
  have hgok : ok g := (Kd.S_R hS).1 g (by simp [Value.ownBlock])
  have hgb : w.heap.size ≤ g := Kd.R_base (Kd.S_R hS) g (by simp [Value.ownBlock])
  obtain ⟨oki, cs, hcl, hM, hcc, hfr, hoki, hH⟩ := Kd.S_elem hS [] (i : Int) (by omega) (by omega)
  have ex : xs.getD (i : Int).toNat [] = xs[i] := by rw [Int.toNat_natCast, List.getD_eq_getElem?_getD, List.getElem?_eq_getElem hi]; rfl
  rw [ex] at hM
  obtain ⟨u, rfl, hR⟩ := hM
  obtain ⟨A1, c1, hu, hle, hC1⟩ := Kd.R_reads hR
  subst hu
  have ei : (i : Int).toNat * (Kd.slice 3 (Kd.int .i64)).sz + 0 = i := by show (i : Int).toNat * 1 + 0 = i; omega
  have hx1 := hcc 0 _ rfl
  have hf1 := hfr 0
  rw [ei] at hx1 hf1
  refine ⟨g, c, A1, c1, rfl, hgb, hx1, hf1, hle, ⟨A1, c1, rfl, hle, hC1⟩, fun hp => ?_, fun j g1 hj hA => ?_, fun m hm => ?_⟩
  · obtain ⟨g1, c2, e2, gb2, _⟩ := Kd.R_form hR (by omega)
    injection e2 with ea _ _
    exact ⟨g1, ea, gb2⟩
  · subst hA
    obtain ⟨hy, hz⟩ := Kd.R_celln 0 hR (j : Int) (by omega) (by omega)
    rw [Int.toNat_natCast] at hy hz
    refine ⟨hy, hz, fun x => ?_⟩
    have hg1 : oki g1 := hR.1 g1 (by simp [Value.ownBlock])
    have hb1 : w.heap.size ≤ g1 := Kd.R_base hR g1 (by simp [Value.ownBlock])
    have hP := Kd.R_putg hR (j : Int) x
    rw [Int.toNat_natCast] at hP
    have h1 := Kd.H_back (Kd.H_step hH (fun k _ hn' hlt => hP.2.block k hlt (fun e => hn' (by cases e; exact hg1)))) (x' := xs[i].set j x) (okp := oki) ⟨_, rfl, hP.1⟩ (fun _ h => h)
    rw [Int.toNat_natCast] at h1
    refine St.redo1 (o' := obS _ _ w ok _ _) h n hn ⟨hP.2.size, fun k hk hne => hP.2.block k hk (fun e => hne (by cases e; exact (hoki g1 hg1).1))⟩ (below_set h.below hb1) ⟨fun k hk => ⟨.inl hk, (hw k hk).1, Nat.lt_of_lt_of_le (hw k hk).2 hP.2.size⟩, h1, firmS⟩
  · have h2 := Kd.S_seg0 hH (show (0 : Int) ≤ (i : Int) by omega) (show (i : Int) < (xs.length : Int) by omega) (seg := [.slice A1 m c1]) (j := 0) (show 1 ≤ 1 from by decide) (x' := xs[i].take m) (okp := oki) ⟨.slice A1 m c1, rfl, Kd.R_take hR hm⟩ (fun _ h => h)
    rw [ei, Int.toNat_natCast] at h2
    refine St.redo1 (o' := obS _ _ w ok _ _) h n hn ⟨h2.2.size, fun k hk hne => h2.2.block k hk (fun e => hne (by cases e; exact hgok))⟩ (below_set h.below hgb) ⟨fun k hk => ⟨.inl hk, (hw k hk).1, Nat.lt_of_lt_of_le (hw k hk).2 h2.2.size⟩, h2.1, firmS⟩
end
section
variable {ops : Array Oper} {rest : List Oper} {oi : Oper} {a : Act} {Q : Exit → Act → World → Prop} {w W : World} {L : List Ob} {ok : Nat → Prop} {v : Value} {xs : List (List Int)}
/-- append(rows[i], x), ahead of the store into rows[i] -/
theorem St.growRow (hgd : oi.guard = none) (s y : Operand) (ho : oi.op = .call { callee := .builtin .append, args := #[s, y], argTypes := #[22, 22] }) {x : Int}
    (h : St w W L) (n : Nat) (hn : L[n]? = some (obS (Kd.slice 3 (Kd.int .i64)) 22 w ok v xs)) (i : Nat) (hi : i < xs.length) {r : List Int} (hr : xs[i] = r) {g c c1 : Nat} {A1 : Option Addr} (hv : v = .slice (some ⟨g, 0, none⟩) xs.length c) (hc : W.cell? ⟨g, i, none⟩ = some (.slice A1 r.length c1))
    (hs : a.eval s = .slice A1 r.length c1) (hx : a.eval y = .slice (some ⟨W.heap.size, 0, none⟩) 1 1) (hl : (r.length + 1) * 8 ≤ 140737488355328)
    (hk : ∀ A2 c2 w1, w1.cell? ⟨g, i, none⟩ = some (.slice A1 r.length c1) → w1.frozen? ⟨g, i, none⟩ = false → (∃ ok2, St w (w1.setCell ⟨g, i, none⟩ (.slice A2 (r.length + 1) c2)) (L.set n (obS (Kd.slice 3 (Kd.int .i64)) 22 w ok2 v (xs.set i (r ++ [x]))))) → wpList Try.prog ops Q rest (a.put oi.dst (.slice A2 (r.length + 1) c2)) w1) :
    wpList Try.prog ops Q (oi :: rest) a (W.alloc (.cells #[.int .i64 x] 3)) := by
  subst hv hr
  have hS : Kd.S (Kd.slice 3 (Kd.int .i64)) 22 W w.heap.size ok (.slice (some ⟨g, 0, none⟩) xs.length c) xs := h.get n hn
  have hw := (h.own _ (List.mem_of_getElem? hn)).1
  have hgok : ok g := (Kd.S_R hS).1 g (by simp [Value.ownBlock])
  have hgb : w.heap.size ≤ g := Kd.R_base (Kd.S_R hS) g (by simp [Value.ownBlock])
  obtain ⟨oki, cs, hcl, hM, hcc, hfr, hoki, hH⟩ := Kd.S_elem hS [] (i : Int) (by omega) (by omega)
  have ex : xs.getD (i : Int).toNat [] = xs[i] := by rw [Int.toNat_natCast, List.getD_eq_getElem?_getD, List.getElem?_eq_getElem hi]; rfl
  rw [ex] at hM
  obtain ⟨u, rfl, hR⟩ := hM
  have ei : (i : Int).toNat * (Kd.slice 3 (Kd.int .i64)).sz + 0 = i := by show (i : Int).toNat * 1 + 0 = i; omega
  have hx1 := hcc 0 _ rfl
  rw [ei, hc] at hx1
  injection hx1 with hx1
  subst hx1
  refine Kd.R_append (Kd.int .i64) (w0 := w) w.heap.size hgd s y 22 3 (.int .i64 0) 8 ho Try.underlying22 info3 rfl (by decide) (by omega) (.slice A1 xs[i].length c1) xs[i] x [.int .i64 x] (fun k => oki k ∨ W.heap.size ≤ k) (fun _ => False) hs hx rfl (fun _ h => h.elim) (fun _ h => .inr h) (Kd.R_mono hR (fun k hk => .inl hk)) h.below h.below.size hl ?_
  intro v1 w1 hR1 hB hg hat
  obtain ⟨A2, c2, e2⟩ := Kd.R_slice hR1
  subst e2
  have hne : some g ≠ (Value.slice A1 xs[i].length c1).ownBlock := fun e => (hoki g (hR.1 g e.symm)).2 rfl
  have hH1 : Kd.H (Kd.slice 3 (Kd.int .i64)) 22 w1 w.heap.size (fun k => ok k ∨ W.heap.size ≤ k) (.slice (some ⟨g, 0, none⟩) xs.length c) xs (i : Int) (fun k => oki k ∨ (ok k ∨ W.heap.size ≤ k) ∧ W.heap.size ≤ k) [.slice A1 xs[i].length c1] := by
    have := Kd.H_widen (Kd.H_mono hH (fun k hk => (.inl hk : ok k ∨ W.heap.size ≤ k)))
    have h3 := Kd.H_grown this hg (fun k e => .inl (hR.1 k e))
    exact h3
  obtain ⟨hc7, hf7⟩ := Kd.H_at hH1 (show (0 : Int) ≤ (i : Int) by omega) (show (i : Int) < (xs.length : Int) by omega)
  have hx7 := hc7 0 _ rfl
  have hy7 := hf7 0
  rw [ei] at hx7 hy7
  rw [show (xs[i] ++ [x]).length = xs[i].length + 1 by simp] at hR1 ⊢
  refine hk A2 c2 w1 hx7 hy7 ⟨fun k => (ok k ∨ W.heap.size ≤ k) ∧ w.heap.size ≤ k ∧ k < w1.heap.size, ?_⟩
  have h2 := Kd.S_seg0 hH1 (show (0 : Int) ≤ (i : Int) by omega) (show (i : Int) < (xs.length : Int) by omega) (seg := [.slice A2 (xs[i].length + 1) c2]) (j := 0) (show 1 ≤ 1 from by decide) (x' := xs[i] ++ [x]) (okp := fun k => oki k ∨ W.heap.size ≤ k) ⟨.slice A2 (xs[i].length + 1) c2, rfl, hR1⟩ (fun k hk => hk.imp id (fun h => ⟨.inr h, h⟩))
  rw [ei, Int.toNat_natCast] at h2
  have hz := hg.size
  refine St.redo1 (o' := obS _ _ w _ _ _) h n hn ⟨Nat.le_trans hg.size h2.2.size, fun k hk hne => ?_⟩ (below_set hB hgb) ⟨fun k hk => ⟨hk.1, hk.2.1, Nat.lt_of_lt_of_le hk.2.2 h2.2.size⟩, Kd.S_mono (Kd.S_bound h2.1) (fun k hk => ⟨hk.1, hk.2.1, ?_⟩), firmS⟩
  · exact (h2.2.block k (Nat.lt_of_lt_of_le hk hz) (fun e => hne (by cases e; exact hgok))).trans (hg.block k hk (fun e => hne (hoki k (hR.1 k e.symm)).1))
  · have := hk.2.2.1
    have e3 : (w1.setCell ⟨g, i, none⟩ (.slice A2 (xs[i].length + 1) c2)).heap.size = w1.heap.size := by simp [World.setCell]
    have e4 : (w1.setCells g i [.slice A2 (xs[i].length + 1) c2]).heap.size = w1.heap.size := e3
    omega
end
section
variable {ops : Array Oper} {rest : List Oper} {oi : Oper} {a : Act} {Q : Exit → Act → World → Prop} {w W : World} {L : List Ob}
/-- make([]int, z) -/
theorem St.make0 {N : Tmp} (hgd : oi.guard = none) (hd : oi.dst = some N) (x y : Operand) (ho : oi.op = .makeSlice 22 x y) (z : Nat) (hx : a.eval x = .int .i64 (z : Int)) (hy : a.eval y = .int .i64 (z : Int)) (hl : z * 8 ≤ 281474976710656) (h : St w W L)
    (hk : ∀ v1 w1 ok1, St w w1 (obR (Kd.int .i64) 3 w ok1 v1 (List.replicate z 0) :: L) → wpList Try.prog ops Q rest (a.put oi.dst v1) w1) : wpList Try.prog ops Q (oi :: rest) a W := by
  refine Kd.R_make (Kd.int .i64) (w0 := W) W.heap.size 3 hgd hd 22 x y ho (z : Int) hx hy Try.underlying22 (.int .i64 0) 8 info3 rfl (by decide) (by omega) 0 (ok := fun _ => True) (okp := fun _ => True) rfl (fun _ hk => hk) trivial (by omega) (by rw [Int.toNat_natCast]; exact hl) (Below.refl _ _) (Nat.le_refl _) ?_
  intro v1 w1 hR hB hg _
  rw [Int.toNat_natCast] at hR
  obtain ⟨ok1, h1⟩ := h.addR hB hR
  exact hk v1 w1 ok1 h1
/-- a literal of no element -/
theorem St.lit0 {α : Type} (d : Kd α) (e : Nat) {N : Tmp} (hgd : oi.guard = none) (hd : oi.dst = some N) (hrun : (execOp a.eval oi).run Try.prog W = .ok (.value (.slice (some ⟨W.heap.size, 0, none⟩) 0 0)) (W.alloc (.cells #[] e))) (h : St w W L)
    (hk : ∀ v1 w1 ok1, St w w1 (obS d e w ok1 v1 [] :: L) → wpList Try.prog ops Q rest (a.put oi.dst v1) w1) : wpList Try.prog ops Q (oi :: rest) a W := by
  refine Kd.S_lit d (w0 := W) W.heap.size e hgd hd (xs := []) (inner := []) (ok := fun _ => True) (okp := fun _ => False) hrun (Reps.none _ _) (fun _ h => h.elim) trivial (Below.refl _ _) (Nat.le_refl _) (by simp) ?_
  intro v1 w1 hS hB _ _
  obtain ⟨ok1, h1⟩ := h.addS hB hS
  exact hk v1 w1 ok1 h1
end
section
variable {α β : Type} {d : Kd α} {d' : Kd β} {t t' : Nat} {w W W' : World} {v v' : Value} {xs : List α} {ys : List β} {L : List Ob}
/-- two made at once, that lead to nothing -/
theorem St.addRR (hE : d.E = []) (hE' : d'.E = []) (h : St w W L) (hb : Below W.heap.size W W') (hr : Kd.R d t W' W.heap.size (fun k => some k ≠ v'.ownBlock) v xs) (hr' : Kd.R d' t' W' W.heap.size (fun k => some k ≠ v.ownBlock) v' ys) : ∃ ok1 ok2, St w W' (obR d t w ok1 v xs :: obR d' t' w ok2 v' ys :: L) := by
  have hs := h.below.size
  have b1 := Kd.R_bound (Kd.R_tight hE hr)
  have b2 := Kd.R_bound (Kd.R_tight hE' hr')
  refine ⟨_, _, h.add2 (o := obR d t w (fun k => some k = v.ownBlock ∧ W.heap.size ≤ k ∧ k < W'.heap.size) v xs) (o' := obR d' t' w (fun k => some k = v'.ownBlock ∧ W.heap.size ≤ k ∧ k < W'.heap.size) v' ys) hb (fun _ hk => hk.2) ?_ firmR (fun _ hk => hk.2) ?_ firmR (fun k hk hk2 => ?_)⟩
  · exact Kd.R_mono (Kd.R_lower b1 hs) (fun k hk => ⟨hk.1, hk.2.1, hk.2.2.1⟩)
  · exact Kd.R_mono (Kd.R_lower b2 hs) (fun k hk => ⟨hk.1, hk.2.1, hk.2.2.1⟩)
  · exact hr.1 k hk.1.symm hk2.1
end
/-- a literal of elements, as an event -/
theorem lit_event {ops : Array Oper} {rest : List Oper} {oi : Oper} {a : Act} {Q : Exit → Act → World → Prop} {W : World} {N : Tmp} (hgd : oi.guard = none) (_hd : oi.dst = some N) {cs : Array Value} {t n : Nat}
    (hrun : (execOp a.eval oi).run Try.prog W = .ok (.value (.slice (some ⟨W.heap.size, 0, none⟩) n n)) (W.alloc (.cells cs t (0, 0))))
    (h : ∀ b, b = W.heap.size → ∀ w1, w1.heap[b]? = some (.cells cs t (0, 0)) → Below W.heap.size W w1 → wpList Try.prog ops Q rest (a.put oi.dst (.slice (some ⟨b, 0, none⟩) n n)) w1) : wpList Try.prog ops Q (oi :: rest) a W :=
  Kd.event_run hgd hrun (h _ rfl _ (blk_new W _) (below_alloc (Below.refl _ _) _))
/-- s[z:] of whole numbers -/
theorem cut_ints (A : Option Addr) (n c z : Nat) (h : z ≤ n) (W : World) : (Instr.slice 22 (.slice A n c) (some (.int .i64 (z : Int))) none none).run Try.prog W = .ok (.slice (if c = z then A else A.map (·.add z)) (n - z) (c - z)) W := by
  obtain ⟨i, hi, hz⟩ := Option.map_eq_some_iff.1 info3
  simp only [Prod.mk.injEq] at hz
  have := cut_from (P := Try.prog) 22 3 .i64 Try.underlying22 hi 1 hz.2.1 A n c (z : Int) (by omega) (by omega) W
  simpa using this
end Go.Proofs.Ytaghidcmefbjdaa.Q

set_option linter.unusedVariables false
set_option linter.unusedSimpArgs false
namespace Go.Proofs.Ytaghidcmefbjdaa.Q
open Go.RowKit Go.Proofs.Ytaghidcmefbjdaa.F Go.Proofs.YtaghidcmefbjdaaW.PrintWords Go.Proofs.YtaghidcmefbjdaaW.PrintLast Go.Proofs.YtaghidcmefbjdaaW.PrintMore
section
variable {w W w1 : World} {L L' : List Ob} {b t : Nat} {cs cs' : Array Value} {x0 x1 : Value} {o o' o'' : Ob}
theorem St.putB (h : St w W L) (i : Nat) (hi : L[i]? = some (obB b cs t)) (j : Nat) (u : Value) (hc : cs.setIfInBounds j u = cs') : St w (W.setCell ⟨b, j, none⟩ u) (L.set i (obB b cs' t)) := by
  have hb : w.heap.size ≤ b := ((h.own _ (List.mem_of_getElem? hi)).1 b rfl).1
  refine h.mark (o' := obB b cs' t) i hi rfl firmB (below_set h.below hb) ⟨by simp [World.setCell], fun k _ hk => ?_⟩ (blk_put (show W.heap[b]? = some (.cells cs t (0, 0)) from h.get i hi) j u hc) rfl
  have hk' : k ≠ b := hk
  exact Below.heap_setCell _ _ _ _ hk'
theorem St.addB (h : St w W L) {W' : World} (hx : W'.heap[b]? = some (.cells cs t (0, 0))) (hb : b = W.heap.size) (hl : Below W.heap.size W W') : St w W' (obB b cs t :: L) :=
  h.add (o := obB b cs t) hl (fun k hk => by have h1 : k = b := hk; have h2 := blk_lt hx; omega) hx firmB
theorem St.heapB (h : St w W L) (i : Nat) (hi : L[i]? = some (obB b cs t)) : W.heap[b]? = some (.cells cs t (0, 0)) := h.get i hi
theorem St.giveRS {α β : Type} {d : Kd α} {d' : Kd β} {t t' : Nat} {ok0 ok1 : Nat → Prop} {v0 v1 : Value} {xs : List α} {ys : List β} (h : St w W L) (i j : Nat) (hij : i < j) (hi : L[i]? = some (obR d t w ok0 v0 xs)) (hj : L[j]? = some (obS d' t' w ok1 v1 ys)) :
    Kd.R d t W w.heap.size (fun _ => True) v0 xs ∧ Kd.S d' t' W w.heap.size (fun k_ => some k_ ≠ (v0 : Value).ownBlock) v1 ys ∧ Below w.heap.size w W := by
  have hR : Kd.R d t W w.heap.size ok0 v0 xs := h.get i hi
  have hS : Kd.S d' t' W w.heap.size ok1 v1 ys := h.get j hj
  refine ⟨Kd.R_mono hR (fun _ _ => trivial), Kd.S_mono hS (fun k hk e => ?_), h.below⟩
  obtain ⟨hil, hi'⟩ := List.getElem?_eq_some_iff.1 hi
  obtain ⟨hjl, hj'⟩ := List.getElem?_eq_some_iff.1 hj
  have hp := List.pairwise_iff_getElem.1 h.apart i j hil hjl hij k
  rw [hi', hj'] at hp
  exact hp (hR.1 k e.symm) hk
theorem St.giveSR {α β : Type} {d : Kd α} {d' : Kd β} {t t' : Nat} {ok0 ok1 : Nat → Prop} {v0 v1 : Value} {xs : List α} {ys : List β} (h : St w W L) (i j : Nat) (hij : j < i) (hi : L[i]? = some (obR d t w ok0 v0 xs)) (hj : L[j]? = some (obS d' t' w ok1 v1 ys)) :
    Kd.R d t W w.heap.size (fun _ => True) v0 xs ∧ Kd.S d' t' W w.heap.size (fun k_ => some k_ ≠ (v0 : Value).ownBlock) v1 ys ∧ Below w.heap.size w W := by
  have hR : Kd.R d t W w.heap.size ok0 v0 xs := h.get i hi
  have hS : Kd.S d' t' W w.heap.size ok1 v1 ys := h.get j hj
  refine ⟨Kd.R_mono hR (fun _ _ => trivial), Kd.S_mono hS (fun k hk e => ?_), h.below⟩
  obtain ⟨hil, hi'⟩ := List.getElem?_eq_some_iff.1 hi
  obtain ⟨hjl, hj'⟩ := List.getElem?_eq_some_iff.1 hj
  have hp := List.pairwise_iff_getElem.1 h.apart j i hjl hil hij k
  rw [hi', hj'] at hp
  exact hp hk (hR.1 k e.symm)
theorem Reads.C {α : Type} {d : Kd α} {A : Option Addr} {c : Nat} {xs : List α} (h : Reads d W (.slice A xs.length c) xs) : xs.length ≤ c ∧ d.C W A xs.length xs := by
  obtain ⟨A', c', e, h1, h2⟩ := h
  cases e
  exact ⟨h1, h2⟩
/-- a literal of two rows, read -/
theorem rows2_C {A1 A2 : Option Addr} {k1 k2 e : Nat} {y1 y2 : List Int} (h1 : Reads (Kd.int .i64) W (.slice A1 y1.length k1) y1) (h2 : Reads (Kd.int .i64) W (.slice A2 y2.length k2) y2) (hb : W.heap[b]? = some (.cells #[.slice A1 y1.length k1, .slice A2 y2.length k2] t (0, 0))) :
    Reads (Kd.slice e (Kd.int .i64)) W (.slice (some ⟨b, 0, none⟩) 2 2) [y1, y2] := by
  refine ⟨_, _, rfl, Nat.le_refl _, rfl, (show 2 ≤ 9223372036854775807 by decide), fun _ => ⟨_, rfl, fun j p hj => ?_⟩⟩
  match j, hj with
  | 0, hj =>
    obtain rfl : y1 = p := by simpa using hj
    refine ⟨[.slice A1 y1.length k1], rfl, ⟨A1, k1, rfl, (Reads.C h1).1, (Reads.C h1).2⟩, fun i u hu => ?_⟩
    match i, hu with
    | 0, hu =>
      obtain rfl : Value.slice A1 y1.length k1 = u := by simpa using hu
      exact (blk_cell hb 0).trans rfl
  | 1, hj =>
    obtain rfl : y2 = p := by simpa using hj
    refine ⟨[.slice A2 y2.length k2], rfl, ⟨A2, k2, rfl, (Reads.C h2).1, (Reads.C h2).2⟩, fun i u hu => ?_⟩
    match i, hu with
    | 0, hu =>
      obtain rfl : Value.slice A2 y2.length k2 = u := by simpa using hu
      exact (blk_cell hb 1).trans rfl
end
end Go.Proofs.Ytaghidcmefbjdaa.Q

set_option linter.unusedVariables false
set_option linter.unusedSimpArgs false
namespace Go.Proofs.Ytaghidcmefbjdaa.Q
open Go.RowKit Go.Proofs.Ytaghidcmefbjdaa.F Go.Proofs.YtaghidcmefbjdaaW.PrintWords Go.Proofs.YtaghidcmefbjdaaW.PrintLast Go.Proofs.YtaghidcmefbjdaaW.PrintMore
/-- a list of rows whose rows ahead of k were taken -/
def obT (t : Nat) (w : World) (ok : Nat → Prop) (g : Nat) (cur : Array Value) (f : Nat → Nat) (k : Nat) (xs : List (List Int)) : Ob :=
  ⟨ok, fun W => ok g ∧ W.heap[g]? = some (.cells cur t (0, 0)) ∧ ∀ (j : Nat) (hj : j < xs.length), k ≤ j → ∃ A c, cur[j]? = some (.slice A xs[j].length c) ∧ Kd.R (Kd.int .i64) 3 W w.heap.size (fun b => ok b ∧ b ≠ g ∧ f b = j) (.slice A xs[j].length c) xs[j]⟩
section
variable {w W : World} {L : List Ob} {ok : Nat → Prop} {v : Value} {xs : List (List Int)} {t g k : Nat} {cur : Array Value} {f : Nat → Nat}
theorem firmT : Firm (obT t w ok g cur f k xs) := fun W W' h hm => by
  obtain ⟨h1, h2, h3⟩ := h
  refine ⟨h1, (hm g h1 (blk_lt h2)).trans h2, fun j hj hk => ?_⟩
  obtain ⟨A, c, h4, h5⟩ := h3 j hj hk
  exact ⟨A, c, h4, Kd.R_step h5 (fun b hb hlt => hm b hb.1 hlt)⟩
theorem St.weakT {o o' : Ob} (h : St w W L) (i : Nat) (hi : L[i]? = some o) (hok : ∀ k, o'.ok k → o.ok k) (hP : o'.P W) (hF : Firm o') : St w W (L.set i o') :=
  h.redo1 i hi (Kept.refl _ _) h.below ⟨fun k hk => ⟨.inl (hok k hk), (h.own o (List.mem_of_getElem? hi)).1 k (hok k hk)⟩, hP, hF⟩
theorem St.openT (h : St w W L) (n : Nat) (hn : L[n]? = some (obS (Kd.slice 3 (Kd.int .i64)) t w ok v xs)) (hp : 0 < xs.length) :
    ∃ g c cur f, v = .slice (some ⟨g, 0, none⟩) xs.length c ∧ St w W (L.set n (obT t w ok g cur f 0 xs)) := by
  obtain ⟨f, h0, inner, ho, hr⟩ : Kd.S (Kd.slice 3 (Kd.int .i64)) t W w.heap.size ok v xs := h.get n hn
  rw [List.length_zipIdx] at ho
  rcases ho.2 with ⟨_, he⟩ | ⟨g, cap, cur, rfl, hg, hh, hnc, hcm, hcs, ht⟩
  · omega
  · have hgok : ok g := h0 g (by simp [Value.ownBlock])
    refine ⟨g, cap, cur, f, rfl, h.weakT n hn (fun _ hk => hk) ⟨hgok, hh, fun j hj _ => ?_⟩ firmT⟩
    have h1 := hr.2 j (xs[j], j) (Kd.zip_at (List.getElem?_eq_getElem hj))
    have hl : inner.length = xs.length := by
      have := hr.1
      rw [List.length_zipIdx] at this
      rw [this]; show xs.length * 1 = _; omega
    obtain ⟨u, e, hR⟩ : ∃ u, (inner.drop (j * 1)).take 1 = [u] ∧ Kd.R (Kd.int .i64) 3 W w.heap.size (fun b => (ok b ∧ some b ≠ (Value.slice (some ⟨g, 0, none⟩) xs.length cap).ownBlock) ∧ f b = j) u xs[j] := h1
    obtain ⟨A, c, rfl⟩ := Kd.R_slice hR
    rw [Nat.mul_one, List.drop_eq_getElem_cons (by omega)] at e
    have e2 : inner[j]'(by omega) = .slice A xs[j].length c := (List.cons.inj (show [inner[j]'(by omega)] = [_] from e)).1
    refine ⟨A, c, ?_, Kd.R_mono hR (fun b hb => ⟨hb.1.1, fun e3 => hb.1.2 (by rw [e3]; simp [Value.ownBlock]), hb.2⟩)⟩
    have ht' : cur.toList.take (xs.length * 1) = inner := ht
    have h5 : inner[j]? = some (.slice A xs[j].length c) := by rw [List.getElem?_eq_getElem (by omega), e2]
    rw [← ht', Nat.mul_one, List.getElem?_take, if_pos hj] at h5
    simpa using h5
theorem St.rowT (h : St w W L) (n : Nat) (hn : L[n]? = some (obT t w ok g cur f k xs)) (j : Nat) (hk : k ≤ j) (hj : j < xs.length) : ∃ A c, cur[j]? = some (.slice A xs[j].length c) ∧ xs[j].length ≤ c := by
  obtain ⟨_, _, h3⟩ := h.get n hn
  obtain ⟨A, c, h4, h5⟩ := h3 j hj hk
  exact ⟨A, c, h4, (Kd.R_reads' h5).2.1⟩
theorem St.cellT (h : St w W L) (n : Nat) (hn : L[n]? = some (obT t w ok g cur f k xs)) {j : Nat} {u : Value} (hc : cur[j]? = some u) : W.cell? ⟨g, j, none⟩ = some u :=
  (blk_cell (show W.heap[g]? = some (.cells cur t (0, 0)) from (h.get n hn).2.1) j).trans hc
theorem St.readT (h : St w W L) (n : Nat) (hn : L[n]? = some (obT t w ok g cur f k xs)) {j c : Nat} {A : Option Addr} (hk : k ≤ j) (hj : j < xs.length) {r : List Int} (hr : xs[j] = r) (hc : cur[j]? = some (.slice A r.length c)) : Reads (Kd.int .i64) W (.slice A r.length c) r := by
  subst hr
  obtain ⟨_, _, h3⟩ := h.get n hn
  obtain ⟨A', c', h4, h5⟩ := h3 j hj hk
  rw [hc] at h4
  injection h4 with h4
  injection h4 with ha _ hcc
  subst ha hcc
  exact Kd.R_reads h5
theorem St.skipT (h : St w W L) (n : Nat) (hn : L[n]? = some (obT t w ok g cur f k xs)) : St w W (L.set n (obT t w ok g cur f (k + 1) xs)) := by
  obtain ⟨h1, h2, h3⟩ := h.get n hn
  exact h.weakT n hn (fun _ hk => hk) ⟨h1, h2, fun j hj hk => h3 j hj (by omega)⟩ firmT
/-- a row is taken: from here on it is an object of its own -/
theorem St.takeT (h : St w W L) (n : Nat) (hn : L[n]? = some (obT t w ok g cur f k xs)) (hk : k < xs.length) {r : List Int} (hr : xs[k] = r) {A : Option Addr} {c : Nat} (hc : cur[k]? = some (.slice A r.length c)) :
    ∃ ok0 ok1, St w W (obR (Kd.int .i64) 3 w ok0 (.slice A r.length c) r :: L.set n (obT t w ok1 g cur f (k + 1) xs)) := by
  subst hr
  obtain ⟨hnl, hno⟩ := List.getElem?_eq_some_iff.1 hn
  obtain ⟨h1, h2, h3⟩ := h.get n hn
  obtain ⟨A', c', h4, h5⟩ := h3 k hk (Nat.le_refl _)
  rw [hc] at h4
  injection h4 with h4
  injection h4 with ha _ hcc
  subst ha hcc
  have hw := (h.own _ (List.mem_of_getElem? hn)).1
  have e0 : L = L.take n ++ obT t w ok g cur f k xs :: L.drop (n + 1) := by rw [← hno, ← List.drop_eq_getElem_cons hnl, List.take_append_drop]
  have e1 : List.Perm L ([obT t w ok g cur f k xs] ++ (L.take n ++ L.drop (n + 1))) := by
    have := List.perm_middle (a := obT t w ok g cur f k xs) (l₁ := L.take n) (l₂ := L.drop (n + 1))
    rwa [← e0] at this
  obtain ⟨o', ho'⟩ : ∃ o, o = obT t w (fun b => ok b ∧ (b = g ∨ k + 1 ≤ f b)) g cur f (k + 1) xs := ⟨_, rfl⟩
  obtain ⟨q, hq⟩ : ∃ o, o = obR (Kd.int .i64) 3 w (fun b => ok b ∧ b ≠ g ∧ f b = k) (.slice A xs[k].length c) xs[k] := ⟨_, rfl⟩
  have e2 : List.Perm ([q, o'] ++ (L.take n ++ L.drop (n + 1))) (q :: L.set n o') := by
    rw [List.set_eq_take_append_cons_drop, if_pos hnl]
    exact List.Perm.cons _ (List.perm_middle (a := o') (l₁ := L.take n) (l₂ := L.drop (n + 1))).symm
  have h6 : St w W (q :: L.set n o') := by
    refine St.perm_ (St.redo (St.perm_ h e1) (w1 := W) (P' := [q, o']) (Kept.refl _ _) h.below ?_ ?_) e2
    · intro p hp
      rcases List.mem_cons.1 hp with rfl | hp
      · subst hq
        exact ⟨fun b hb => ⟨.inl ⟨obT t w ok g cur f k xs, by simp, hb.1⟩, hw b hb.1⟩, h5, firmR⟩
      · obtain rfl := List.mem_singleton.1 hp
        subst ho'
        refine ⟨fun b hb => ⟨.inl ⟨obT t w ok g cur f k xs, by simp, hb.1⟩, hw b hb.1⟩, ⟨⟨h1, .inl rfl⟩, h2, fun j hj hkj => ?_⟩, firmT⟩
        obtain ⟨A'', c'', h7, h8⟩ := h3 j hj (by omega)
        exact ⟨A'', c'', h7, Kd.R_mono h8 (fun b hb => ⟨⟨hb.1, .inr (by rw [hb.2.2]; exact hkj)⟩, hb.2⟩)⟩
    · refine List.Pairwise.cons (fun p hp b hb hb2 => ?_) (List.pairwise_singleton _ _)
      obtain rfl := List.mem_singleton.1 hp
      subst ho' hq
      have hb' : ok b ∧ b ≠ g ∧ f b = k := hb
      have hb2' : ok b ∧ (b = g ∨ k + 1 ≤ f b) := hb2
      rcases hb2'.2 with e | e
      · exact hb'.2.1 e
      · omega
  subst hq ho'
  exact ⟨_, _, h6⟩
end
section
variable {ops : Array Oper} {rest : List Oper} {oi : Oper} {a : Act} {Q : Exit → Act → World → Prop} {w W : World} {L : List Ob} {ok : Nat → Prop} {v : Value} {xs ys : List Int}
/-- a literal of no whole number -/
theorem St.litNil {N : Tmp} (hgd : oi.guard = none) (hd : oi.dst = some N) (hrun : (execOp a.eval oi).run Try.prog W = .ok (.value (.slice (some ⟨W.heap.size, 0, none⟩) 0 0)) (W.alloc (.cells #[] 3))) (h : St w W L)
    (hk : ∀ v1 w1 ok1, St w w1 (obR (Kd.int .i64) 3 w ok1 v1 [] :: L) → wpList Try.prog ops Q rest (a.put oi.dst v1) w1) : wpList Try.prog ops Q (oi :: rest) a W := by
  refine Kd.R_lit (Kd.int .i64) (w0 := W) W.heap.size 3 hgd hd (xs := []) (inner := []) (ok := fun _ => True) (okp := fun _ => False) hrun (Reps.none _ _) (fun _ h => h.elim) trivial (Below.refl _ _) (Nat.le_refl _) (by simp) ?_
  intro v1 w1 hR hB _ _
  obtain ⟨ok1, h1⟩ := h.addR hB hR
  exact hk v1 w1 ok1 h1
/-- a literal of one whole number -/
theorem St.litOne {N : Tmp} (x : Int) (hgd : oi.guard = none) (hd : oi.dst = some N) (hrun : (execOp a.eval oi).run Try.prog W = .ok (.value (.slice (some ⟨W.heap.size, 0, none⟩) 1 1)) (W.alloc (.cells #[.int .i64 x] 3))) (h : St w W L)
    (hk : ∀ v1 w1 ok1, St w w1 (obR (Kd.int .i64) 3 w ok1 v1 [x] :: L) → wpList Try.prog ops Q rest (a.put oi.dst v1) w1) : wpList Try.prog ops Q (oi :: rest) a W := by
  refine Kd.R_lit (Kd.int .i64) (w0 := W) W.heap.size 3 hgd hd (xs := [x]) (inner := [.int .i64 x]) (ok := fun _ => True) (okp := fun _ => True) hrun ⟨rfl, fun j p hj => ?_⟩ (fun _ _ => trivial) trivial (Below.refl _ _) (Nat.le_refl _) (by simp) ?_
  · cases j with
    | zero => obtain rfl : x = p := by simpa using hj
              rfl
    | succ j => simp at hj
  · intro v1 w1 hR hB _ _
    obtain ⟨ok1, h1⟩ := h.addR hB hR
    exact hk v1 w1 ok1 h1
/-- append(v, ys...) of whole numbers -/
theorem St.putInts {A : Option Addr} {m cA : Nat} (hgd : oi.guard = none) (s y : Operand) (ho : oi.op = .call { callee := .builtin .append, args := #[s, y], argTypes := #[22, 22] })
    (h : St w W L) (n : Nat) (hn : L[n]? = some (obR (Kd.int .i64) 3 w ok v xs)) (hs : a.eval s = v) (hx : a.eval y = .slice A m cA) (HR : Kd.C (Kd.int .i64) W A m ys) (hl : (xs.length + m) * 8 ≤ 140737488355328)
    (hk : ∀ v1 w1 ok1, St w w1 (L.set n (obR (Kd.int .i64) 3 w ok1 v1 (xs ++ ys))) → wpList Try.prog ops Q rest (a.put oi.dst v1) w1) :
    wpList Try.prog ops Q (oi :: rest) a W := by
  have hR : Kd.R (Kd.int .i64) 3 W w.heap.size ok v xs := h.get n hn
  refine Kd.R_append_rows (Kd.int .i64) (Rr := (Kd.int .i64).K W) (w0 := w) w.heap.size hgd s y 22 3 (.int .i64 0) 8 ho Try.underlying22 info3 rfl (by decide) (by omega) v xs ys A m cA (fun k => ok k ∨ W.heap.size ≤ k) (fun _ => False) hs hx (Kd.R_mono hR (fun k hk => .inl hk)) HR (fun _ _ h => h) (fun _ h => h.elim) (fun _ h => .inr h) h.below h.below.size hl ?_
  intro v1 w1 hR1 hB hg _
  exact hk v1 w1 _ (St.redo1 (o' := obR (Kd.int .i64) 3 w (fun k => (ok k ∨ W.heap.size ≤ k) ∧ w.heap.size ≤ k ∧ k < w1.heap.size) v1 (xs ++ ys)) h n hn ⟨hg.size, fun k hk hne => hg.block k hk (fun e2 => hne (hR.1 k e2.symm))⟩ hB ⟨fun k hk => hk, Kd.R_mono (Kd.R_bound hR1) (fun k hk => ⟨hk.1, hk.2.1, hk.2.2.1⟩), firmR⟩)
end
section
variable {ops : Array Oper} {rest : List Oper} {oi : Oper} {a : Act} {Q : Exit → Act → World → Prop} {w W : World} {L : List Ob} {α : Type} {d : Kd α} {o0 : Ob} {p : α} {cs : List Value} {e : Nat}
/-- a literal of one element: what it leads to is the list's from here on -/
theorem St.litOf {N : Tmp} (hgd : oi.guard = none) (hd : oi.dst = some N) (hrun : (execOp a.eval oi).run Try.prog W = .ok (.value (.slice (some ⟨W.heap.size, 0, none⟩) 1 1)) (W.alloc (.cells cs.toArray e))) (h : St w W (o0 :: L)) (hM : d.M W w.heap.size o0.ok p cs)
    (hk : ∀ v1 w1 ok1, St w w1 (obS d e w ok1 v1 [p] :: L) → wpList Try.prog ops Q rest (a.put oi.dst v1) w1) : wpList Try.prog ops Q (oi :: rest) a W := by
  have hcs : cs.length = d.sz := d.K_len (d.K_of_M hM)
  refine Kd.S_lits d (w0 := w) w.heap.size e hgd hd (xs := [p]) (inner := cs) (ok := fun k => o0.ok k ∨ W.heap.size ≤ k) (fun j k => j = 0 ∧ o0.ok k) hrun (by simpa using hcs) ?_ (fun i j k hi hj => hi.1.trans hj.1.symm) (fun j k hk => .inl hk.2) (.inr (Nat.le_refl _)) h.below h.below.size (by simp) ?_
  · intro j x hx
    cases j with
    | zero =>
      obtain rfl : p = x := by simpa using hx
      rw [Nat.zero_mul, List.drop_zero, ← hcs, List.take_length]
      exact d.M_mono (fun k hk => ⟨rfl, hk⟩) hM
    | succ j => simp at hx
  · intro v1 w1 hS hB hg _
    refine hk v1 w1 _ (St.redo (P := [o0]) (P' := [obS d e w (fun k => (o0.ok k ∨ W.heap.size ≤ k) ∧ w.heap.size ≤ k ∧ k < w1.heap.size) v1 [p]]) h ⟨hg.size, fun k hlt _ => hg.block k hlt (by simp)⟩ hB ?_ (List.pairwise_singleton _ _))
    intro q hq
    obtain rfl := List.mem_singleton.1 hq
    exact ⟨fun k hk => ⟨hk.1.imp (fun h1 => ⟨o0, by simp, h1⟩) id, hk.2⟩, Kd.S_mono (Kd.S_bound hS) (fun k hk => ⟨hk.1, hk.2.1, hk.2.2.1⟩), firmS⟩
end
end Go.Proofs.Ytaghidcmefbjdaa.Q

set_option linter.unusedVariables false
set_option linter.unusedSimpArgs false
namespace Go.Proofs.Ytaghidcmefbjdaa.Q
open Go.RowKit Go.Proofs.Ytaghidcmefbjdaa.F Go.Proofs.YtaghidcmefbjdaaW.PrintWords Go.Proofs.YtaghidcmefbjdaaW.PrintLast Go.Proofs.YtaghidcmefbjdaaW.PrintMore
set_option maxHeartbeats 2000000 in
set_option maxRecDepth 100000 in
theorem partitions_zero (m : Nat) (w : World) : Calls Try.prog 87 #[.int .i64 0, .int .i64 (m : Int)] w fun e w' => ∃ v, e = .returned v ∧ Kd.S (Kd.slice 3 (Kd.int .i64)) 22 w' w.heap.size (fun _ => True) v [[]] ∧ Below w.heap.size w w' := by
  have H0 := Aside0.mk (St.start w)
  go_enter Try.func87, Try.ntmps87
  go_wp2_with (first
    | ((with_reducible refine gate_dst (N := 11) rfl ?_); refine St.litNil (N := 11) rfl rfl ?hr H0.out ?_; (case hr => first | (go_simp; done) | (go_simp; rfl)); intro v1 w1 ok1 h_; have H1 := Aside0.mk h_; clear h_; obtain ⟨A1, c1, rfl, _, _⟩ := H1.out.readR 0 rfl; have HM : Aside0 ((Kd.slice 3 (Kd.int .i64)).M w1 w.heap.size ok1 [] [.slice A1 0 c1]) := ⟨⟨_, rfl, H1.out.get 0 rfl⟩⟩)
    | ((with_reducible refine gate_dst (N := 12) rfl ?_); (refine St.litOf (N := 12) (e := 22) (d := Kd.slice 3 (Kd.int .i64)) (p := []) (cs := [.slice A1 0 c1]) rfl rfl ?hr H1.out HM.out ?_; (case hr => first | (go_simp; done) | (go_simp; rfl)); intro v2 w2 ok2 h_; have H2 := Aside0.mk h_; clear h_)))
  go_ret
  exact ⟨_, rfl, Kd.S_mono (H2.out.get 0 rfl) (fun _ _ => trivial), H2.out.below⟩
set_option maxHeartbeats 8000000 in
set_option maxRecDepth 100000 in
theorem partitions_calls : ∀ (f n m : Nat), n ≤ f → f ≤ 9 → n ≤ 9 → m ≤ 9 → ∀ w : World,
    Calls Try.prog 87 #[.int .i64 (n : Int), .int .i64 (m : Int)] w fun e w' => ∃ v, e = .returned v ∧ Kd.S (Kd.slice 3 (Kd.int .i64)) 22 w' w.heap.size (fun _ => True) v (partsF f n m) ∧ Below w.heap.size w w' := by
  have hnil : ∀ f m : Nat, partsF f 0 m = [[]] := fun f m => by cases f <;> simp [partsF]
  intro f
  induction f with
  | zero =>
    intro n m h _ _ _ w
    obtain rfl : n = 0 := by omega
    rw [hnil]
    exact partitions_zero m w
  | succ f IH =>
    intro n m h hf hn hm w
    by_cases h0 : n = 0
    · subst h0; rw [hnil]; exact partitions_zero m w
    · clear hnil
      obtain ⟨a, ha⟩ : ∃ a : Int, a = (n : Int) := ⟨_, rfl⟩
      obtain ⟨b, hb⟩ : ∃ b : Int, b = (m : Int) := ⟨_, rfl⟩
      rw [← ha, ← hb]
      have hz : ¬ a = 0 := by omega
      have eR : partsF (f + 1) n m = (downFrom (min n m)).flatMap (partsG f n) := by simp only [partsF]; rw [if_neg h0]; rfl
      rw [eR]
      obtain ⟨M, hM⟩ : ∃ M, M = min n m := ⟨_, rfl⟩
      have hMn : M ≤ n := by omega
      have hMm : M ≤ m := by omega
      have emn : (if b < a then b else a) = (M : Int) := by split <;> omega
      rw [← hM]
      have H0 := Aside0.mk (St.start w)
      have hb0 : (a == 0) = false := beq_eq_false_iff_ne.mpr hz
      have HIH := Aside0.mk IH
      have HA := Aside0.mk ha
      clear eR IH hM ha hb
      go_enter Try.func87, Try.ntmps87
      go_wp2_with (first
        | ((with_reducible refine gate_dst (N := 13) rfl ?_); refine St.lit0 (Kd.slice 3 (Kd.int .i64)) 22 (N := 13) rfl rfl ?hr H0.out ?_; (case hr => first | (go_simp; done) | (go_simp; rfl)); intro v1 w1 ok1 h_; have H1 := Aside0.mk h_; clear h_))
      go_loopg [5, 6] M (fun kq v5 v6 wr => ∃ (k : Nat) (acc : List (List Int)) (ok : Nat → Prop), k ≤ M ∧ k ≤ kq ∧ v6 = .int .i64 (k : Int) ∧ Aside0 (acc ++ (downFrom k).flatMap (partsG f n) = (downFrom M).flatMap (partsG f n)) ∧ Aside0 (acc.length + k * 43046721 ≤ 400000000) ∧ Aside0 (St w wr [obS (Kd.slice 3 (Kd.int .i64)) 22 w ok v5 acc]))
      case atStart => exact ⟨M, [], ok1, Nat.le_refl _, Nat.le_refl _, by first | rfl | (rw [← emn]) | simp [*], ⟨rfl⟩, ⟨by simp only [List.length_nil]; omega⟩, H1⟩
      case round =>
        clear H0 H1 emn
        obtain ⟨k, acc, ok, hk, hg, rfl, HE, HL, HS⟩ := hrel
        by_cases hk0 : 0 < k
        · have hkz : (0 : Int) < (k : Int) := by omega
          have e1 : IntKind.i64.wrap (a - (k : Int)) = ((n - k : Nat) : Int) := by have := HA.out; rw [IntWalk.i64_in _ (by omega)]; omega
          have hGl := partsG_len (f := f) (n := n) k (by omega) hn
          have hGe : partsG f n k = (partsF f (n - k) k).map (fun p => ((k : Nat) : Int) :: p) := rfl
          have hrow := partsF_row (f := f) (n := n - k) (m := k) (by omega) (by omega)
          have hpos := partsF_pos (f := f) (n := n - k) (m := k) (by omega) (by omega)
          have HC := Aside0.mk (HIH.out (n - k) k (by omega) (by omega) (by omega) (by omega) wr)
          rw [hGe, List.length_map] at hGl
          obtain ⟨X, hX⟩ : ∃ X, partsF f (n - k) k = X := ⟨_, rfl⟩
          rw [hX] at HC hGl hrow hGe hpos
          have HGE := Aside0.mk hGe
          have HROW := Aside0.mk hrow
          clear hX hGe hrow
          go_wp2_with (go_at_call 87; (with_reducible refine HC.out.mono ?_); rintro e w2 ⟨v2, rfl, h1_, h2_⟩; obtain ⟨okx, h_⟩ := HS.out.addS h2_ h1_; have H2 := Aside0.mk h_; clear h1_ h2_ h_; obtain ⟨g2, c2, cur2, f2, rfl, h_⟩ := St.openT H2.out 0 rfl hpos; have H3 := Aside0.mk h_; clear h_ H2)
          go_loopg [5, 27] X.length (fun kq v5 v27 wr => ∃ (i : Nat) (okp : Nat → Prop), i ≤ X.length ∧ X.length - i ≤ kq ∧ v27 = .int .i64 (i : Int) ∧ Aside0 (St w wr [obT 22 w okx g2 cur2 f2 0 X, obS (Kd.slice 3 (Kd.int .i64)) 22 w okp v5 (acc ++ (X.take i).map (fun p => ((k : Nat) : Int) :: p))]))
          case atStart => exact ⟨0, ok, Nat.zero_le _, by omega, rfl, ⟨by rw [List.take_zero, List.map_nil, List.append_nil]; exact H3.out⟩⟩
          case round =>
            clear HC HS H3
            obtain ⟨i, okp, hi, hg2, rfl, HS⟩ := hrel
            by_cases hlt : i < X.length
            · have hltz : (i : Int) < (X.length : Int) := by omega
              obtain ⟨Ar, cr, hcur, hcr⟩ := St.rowT HS.out 0 rfl i (Nat.zero_le _) hlt
              obtain ⟨row, hrw⟩ : ∃ r, X[i] = r := ⟨_, rfl⟩
              rw [hrw] at hcur hcr
              have HRW := Aside0.mk hrw
              have HCU := Aside0.mk hcur
              have hx : wr.cell? ⟨g2, i, none⟩ = some (.slice Ar row.length cr) := St.cellT HS.out 0 rfl hcur
              have hr9 : row.length ≤ 9 := by rw [← hrw]; exact HROW.out _ (List.getElem_mem hlt)
              have E2 : Aside0 (acc ++ (X.take i).map (fun p => ((k : Nat) : Int) :: p) ++ [[(k : Int)] ++ row] = acc ++ (X.take (i + 1)).map (fun p => ((k : Nat) : Int) :: p)) := ⟨by
                rw [List.take_succ_eq_append_getElem hlt, List.map_append, List.map_singleton, ← List.append_assoc, hrw]; rfl⟩
              have HLL := Aside0.mk (show (acc ++ (X.take i).map (fun p => ((k : Nat) : Int) :: p)).length ≤ 400000000 by
                have := HL.out
                rw [List.length_append, List.length_map, List.length_take]
                have h1 : 43046721 ≤ k * 43046721 := Nat.le_mul_of_pos_left _ hk0
                omega)
              obtain ⟨ACC, hACC⟩ : ∃ A, A = acc ++ (X.take i).map (fun p => ((k : Nat) : Int) :: p) := ⟨_, rfl⟩
              rw [← hACC] at E2 HLL HS
              clear hrw hcur hACC
              go_wp2_with (first
                | ((with_reducible refine gate_dst (N := 33) rfl ?_); refine St.litOne (N := 33) (k : Int) rfl rfl ?hr HS.out ?_; (case hr => first | (go_simp; done) | (go_simp; rfl)); intro v4 w4 ok4 h_; have H4 := Aside0.mk h_; clear h_)
                | (at_builtin; refine St.putInts rfl (.tmp 33) (.tmp 34) rfl H4.out 0 rfl rfl rfl (Reads.C (St.readT H4.out 1 rfl (Nat.zero_le i) hlt HRW.out HCU.out)).2 (by simp only [List.length_cons, List.length_nil]; omega) ?_; intro v5 w5 ok5 h_; have H5 := Aside0.mk (St.perm_ h_ (List.Perm.cons _ (List.Perm.swap _ _ _))); clear h_; obtain ⟨A5, c5, rfl, _, _⟩ := H5.out.readR 0 rfl)
                | (at_builtin; refine St.push (t := 23) (d := Kd.slice 3 (Kd.int .i64)) rfl (.tmp 31) (.tmp 36) rfl Try.underlying23 (.slice none 0 0) 24 info22 rfl (by decide) (by omega) H5.out rfl rfl ⟨_, rfl, H5.out.get 0 rfl⟩ (by have := HLL.out; omega) ?_; intro v6 w6 ok6 h_; have H6 := Aside0.mk (St.perm_ h_ (List.Perm.swap _ _ _)); clear h_))
              go_roundg (X.length - (i + 1))
              case measure => omega
              case rel => exact ⟨i + 1, ok6, by omega, by omega, by go_num, ⟨by rw [← E2.out]; exact H6.out⟩⟩
            · have hi2 : i = X.length := by omega
              subst hi2
              have hltz : ¬ (X.length : Int) < (X.length : Int) := by omega
              obtain ⟨j, rfl⟩ : ∃ j, k = j + 1 := ⟨k - 1, by omega⟩
              have HZ : Aside0 (acc ++ X.map (fun p => ((j + 1 : Nat) : Int) :: p) ++ (downFrom j).flatMap (partsG f n) = (downFrom M).flatMap (partsG f n)) := ⟨by
                rw [← HE.out]
                simp only [downFrom]
                rw [List.flatMap_cons, HGE.out, List.append_assoc]⟩
              have HL2 : Aside0 ((acc ++ X.map (fun p => ((j + 1 : Nat) : Int) :: p)).length + j * 43046721 ≤ 400000000) := ⟨by rw [List.length_append, List.length_map]; have := HL.out; omega⟩
              have ew : IntKind.i64.wrap (((j + 1 : Nat) : Int) - 1) = (j : Int) := by rw [IntWalk.i64_in _ (by omega)]; omega
              have H7 := HS.out.drop_
              rw [List.take_length] at H7
              have HS7 := Aside0.mk H7
              clear H7 HE HL HGE HS
              go_wp2
              go_roundg j
              case measure => omega
              case rel => exact ⟨j, _, okp, by omega, by omega, by first | go_num | (simp; omega), HZ, HL2, HS7⟩
        · obtain rfl : k = 0 := by omega
          have HZ := HE.out
          rw [show (downFrom 0).flatMap (partsG f n) = [] from rfl, List.append_nil] at HZ
          have HZ2 := Aside0.mk HZ
          clear HZ HE
          go_wp2
          go_ret
          refine ⟨_, rfl, ?_, HS.out.below⟩
          rw [← HZ2.out]
          exact Kd.S_mono (HS.out.get 0 rfl) (fun _ _ => trivial)
end Go.Proofs.Ytaghidcmefbjdaa.Q

set_option linter.unusedVariables false
set_option linter.unusedSimpArgs false
namespace Go.Proofs.Ytaghidcmefbjdaa.Q
open Go.RowKit Go.Proofs.Ytaghidcmefbjdaa.F Go.Proofs.YtaghidcmefbjdaaW.PrintWords Go.Proofs.YtaghidcmefbjdaaW.PrintLast Go.Proofs.YtaghidcmefbjdaaW.PrintMore
set_option maxHeartbeats 2000000 in
theorem partitionsOf_calls (n : Nat) (hn : n ≤ 9) (w : World) : Calls Try.prog 78 #[.int .i64 (n : Int)] w fun e w' => ∃ v, e = .returned v ∧ Kd.S (Kd.slice 3 (Kd.int .i64)) 22 w' w.heap.size (fun _ => True) v (partsOf n) ∧ Below w.heap.size w w' := by
  have hd : decide ((0 : Int) ≤ (n : Int) ∧ (n : Int) ≤ 9) = true := decide_eq_true (by omega)
  have HC := Aside0.mk (partitions_calls 9 n n hn (Nat.le_refl _) hn hn w)
  have HD := Aside0.mk hd
  clear hd
  go_enter Try.func78, Try.ntmps78
  go_wp2_with (first
    | (go_at_call 58; refine (within_any _ _ _ _).mono ?_; rintro e w' ⟨rfl, rfl⟩; rw [HD.out])
    | (go_at_call 87; (with_reducible refine HC.out.mono ?_); rintro e w2 ⟨v2, rfl, h1_, h2_⟩; have H1 := Aside0.mk h1_; have H2 := Aside0.mk h2_; clear h1_ h2_))
  go_ret
  exact ⟨_, rfl, H1.out, H2.out⟩
section
variable {w W : World} {L : List Ob}
theorem filter_take (P : List Int → Bool) (X : List (List Int)) (i : Nat) (h : i < X.length) : (X.take (i + 1)).filter P = (X.take i).filter P ++ (if P X[i] = true then [X[i]] else []) := by
  rw [List.take_succ_eq_append_getElem h, List.filter_append]
  congr 1
  cases e : P X[i] <;> simp [List.filter, e]
end
set_option maxHeartbeats 4000000 in
set_option maxRecDepth 100000 in
theorem chosen_calls (c : Nat) (lb : Array Value) (ec : ∀ args w, (callFunc c args).run Try.prog w = .ok (.enter c args) w) (P : List Int → Bool) (n : Nat) (hn : n ≤ 9) (w : World)
    (hc : ∀ (W : World) (A : Option Addr) (cq : Nat) (q : List Int), Below w.heap.size w W → isPartition q = true → Kd.C (Kd.int .i64) W A q.length q → q.length ≤ cq → Calls Try.prog c (#[.slice A q.length cq] ++ lb) W fun e w' => e = .returned (.bool (P q)) ∧ Below W.heap.size W w') :
    Calls Try.prog 60 #[.int .i64 (n : Int), .func (.func c) #[] lb] w fun e w' => ∃ v, e = .returned v ∧ Kd.S (Kd.slice 3 (Kd.int .i64)) 22 w' w.heap.size (fun _ => True) v ((partsOf n).filter P) ∧ Below w.heap.size w w' := by
  have H0 := Aside0.mk (St.start w)
  have HP := Aside0.mk (partitionsOf_calls n hn)
  have HC := Aside0.mk hc
  have hXl := partsOf_len hn
  have hpos := partsOf_pos hn
  have HM := Aside0.mk (fun p (hp : p ∈ partsOf n) => ((partsOf_mem hn).1 hp).1)
  obtain ⟨X, hX⟩ : ∃ X, partsOf n = X := ⟨_, rfl⟩
  rw [hX] at HP hXl hpos HM
  rw [hX]
  clear hX hc
  go_enter Try.func60, Try.ntmps60
  go_wp2_with (first
    | ((with_reducible refine gate_dst (N := 8) rfl ?_); refine St.lit0 (Kd.slice 3 (Kd.int .i64)) 22 (N := 8) rfl rfl ?hr H0.out ?_; (case hr => first | (go_simp; done) | (go_simp; rfl)); intro v1 w1 ok1 h_; have H1 := Aside0.mk h_; clear h_)
    | (go_at_call 78; (with_reducible refine (HP.out _).mono ?_); rintro e w2 ⟨v2, rfl, h1_, h2_⟩; obtain ⟨okx, h_⟩ := H1.out.addS h2_ h1_; have H2 := Aside0.mk h_; clear h1_ h2_ h_; obtain ⟨g2, c2, cur2, f2, rfl, h_⟩ := St.openT H2.out 0 rfl hpos; have H3 := Aside0.mk h_; clear h_ H2))
  go_loopg [5, 12] X.length (fun kq v5 v12 wr => ∃ (i : Nat) (ok okp : Nat → Prop), i ≤ X.length ∧ X.length - i ≤ kq ∧ v12 = .int .i64 (i : Int) ∧ Aside0 (St w wr [obT 22 w ok g2 cur2 f2 i X, obS (Kd.slice 3 (Kd.int .i64)) 22 w okp v5 ((X.take i).filter P)]))
  case atStart => exact ⟨0, okx, ok1, Nat.zero_le _, by omega, rfl, ⟨by rw [List.take_zero]; exact H3.out⟩⟩
  case round =>
    clear H0 H1 H3 HP
    obtain ⟨i, ok, okp, hi, hg, rfl, HS⟩ := hrel
    by_cases hlt : i < X.length
    · have hltz : (i : Int) < (X.length : Int) := by omega
      obtain ⟨Ar, cr, hcur, hcr⟩ := St.rowT HS.out 0 rfl i (Nat.le_refl _) hlt
      have hft := filter_take P X i hlt
      obtain ⟨row, hrw⟩ : ∃ r, X[i] = r := ⟨_, rfl⟩
      rw [hrw] at hcur hcr hft
      have HRW := Aside0.mk hrw
      have HCU := Aside0.mk hcur
      have hx : wr.cell? ⟨g2, i, none⟩ = some (.slice Ar row.length cr) := St.cellT HS.out 0 rfl hcur
      have hcall := HC.out wr Ar cr row HS.out.below (HM.out row (by rw [← hrw]; exact List.getElem_mem hlt)) (Reads.C (St.readT HS.out 0 rfl (Nat.le_refl i) hlt hrw hcur)).2 hcr
      have HLL := Aside0.mk (show ((X.take i).filter P).length ≤ 387420489 by
        have := List.length_filter_le P (X.take i)
        rw [List.length_take] at this
        omega)
      obtain ⟨ACC, hACC⟩ : ∃ A, A = (X.take i).filter P := ⟨_, rfl⟩
      rw [← hACC] at hft HLL HS
      clear hrw hcur hACC hcr
      cases hq : P row with
      | true =>
        rw [hq] at hcall hft
        have E2 : Aside0 ((X.take (i + 1)).filter P = ACC ++ [row]) := ⟨hft⟩
        clear hq hft
        go_wp2_with (first
          | (go_at_fn c; refine hcall.mono ?_; rintro e w4 ⟨rfl, hb_⟩; have H4 := Aside0.mk (HS.out.quiet hb_); clear hb_; obtain ⟨ok4, ok5, h_⟩ := St.takeT H4.out 0 rfl hlt HRW.out HCU.out; have H5 := Aside0.mk (St.perm_ h_ (List.Perm.cons _ (List.Perm.swap _ _ _))); clear h_)
          | (at_builtin; refine St.push (t := 23) (d := Kd.slice 3 (Kd.int .i64)) rfl (.tmp 19) (.tmp 21) rfl Try.underlying23 (.slice none 0 0) 24 info22 rfl (by decide) (by omega) H5.out rfl rfl ⟨_, rfl, H5.out.get 0 rfl⟩ (by have := HLL.out; omega) ?_; intro v6 w6 ok6 h_; have H6 := Aside0.mk (St.perm_ h_ (List.Perm.swap _ _ _)); clear h_))
        go_roundg (X.length - (i + 1))
        case measure => omega
        case rel => exact ⟨i + 1, ok5, ok6, by omega, by omega, by go_num, ⟨by rw [E2.out]; exact H6.out⟩⟩
      | false =>
        rw [hq] at hcall hft
        have E2 : Aside0 ((X.take (i + 1)).filter P = ACC) := ⟨by rw [hft]; simp⟩
        clear hq hft
        go_wp2_with (go_at_fn c; refine hcall.mono ?_; rintro e w4 ⟨rfl, hb_⟩; have H4 := Aside0.mk (HS.out.quiet hb_); clear hb_; have h_ := St.skipT H4.out 0 rfl; have H5 := Aside0.mk h_; clear h_)
        go_roundg (X.length - (i + 1))
        case measure => omega
        case rel => exact ⟨i + 1, ok, okp, by omega, by omega, by go_num, ⟨by rw [E2.out]; exact H5.out⟩⟩
    · have hi2 : i = X.length := by omega
      subst hi2
      have hltz : ¬ (X.length : Int) < (X.length : Int) := by omega
      have H7 := HS.out
      rw [List.take_length] at H7
      have HS7 := Aside0.mk H7
      clear H7 HS
      go_wp2
      go_ret
      exact ⟨_, rfl, Kd.S_mono (HS7.out.get 1 rfl) (fun _ _ => trivial), HS7.out.below⟩
/-- a function over shapes answers P, for two partitions -/
def Acc (g : Nat) (P : List Int → List Int → Bool) : Prop := ∀ (W : World) (A0 : Option Addr) (c0 : Nat) (o : List Int) (A1 : Option Addr) (c1 : Nat) (i : List Int), isPartition o = true → isPartition i = true → Kd.C (Kd.int .i64) W A0 o.length o → o.length ≤ c0 → Kd.C (Kd.int .i64) W A1 i.length i → i.length ≤ c1 →
  Calls Try.prog g #[.agg #[.slice A0 o.length c0, .slice A1 i.length c1]] W fun e w' => e = .returned (.bool (P o i)) ∧ Below W.heap.size W w'
section
variable {W : World} {A Ap : Option Addr} {cq cp b5 b3 : Nat} {q p : List Int} {g : Nat} {P : List Int → List Int → Bool}
theorem addedLit_calls (eg : ∀ args w, (callFunc g args).run Try.prog w = .ok (.enter g args) w) (hg : Acc g P) (h5 : W.cell? ⟨b5, 0, none⟩ = some (.func (.func g) #[] #[])) (h3 : W.cell? ⟨b3, 0, none⟩ = some (.slice Ap p.length cp)) (hq : isPartition q = true) (hp : isPartition p = true)
    (hr : Kd.C (Kd.int .i64) W A q.length q) (hc : q.length ≤ cq) (hr' : Kd.C (Kd.int .i64) W Ap p.length p) (hc' : p.length ≤ cp) :
    Calls Try.prog 64 (#[.slice A q.length cq] ++ #[.pointer (some ⟨b5, 0, none⟩), .pointer (some ⟨b3, 0, none⟩)]) W fun e w' => e = .returned (.bool (P q p)) ∧ Below W.heap.size W w' := by
  have HC := Aside0.mk (hg W A cq q Ap cp p hq hp hr hc hr' hc')
  clear hr hr' hg
  go_enter Try.func64, Try.ntmps64
  go_wp2_with (go_at_fn g; refine HC.out.mono ?_; rintro e w4 ⟨rfl, hb_⟩; have H4 := Aside0.mk hb_; clear hb_)
  go_ret
  exact ⟨by simp, H4.out⟩
end
end Go.Proofs.Ytaghidcmefbjdaa.Q

set_option linter.unusedVariables false
set_option linter.unusedSimpArgs false
namespace Go.Proofs.Ytaghidcmefbjdaa.Q
open Go.RowKit Go.Proofs.Ytaghidcmefbjdaa.F Go.Proofs.YtaghidcmefbjdaaW.PrintWords Go.Proofs.YtaghidcmefbjdaaW.PrintLast Go.Proofs.YtaghidcmefbjdaaW.PrintMore
section
variable {w W : World} {L : List Ob} {v : Value} {p : List Int}
theorem isPart_st {b : Bool} (h : St w W L) (hr : Reads (Kd.int .i64) W v p) (hl : p.length ≤ 1048576) (hb : isPartition p = b) :
    Calls Try.prog 57 #[v] W fun e W' => e = .returned (.bool b) ∧ St w W' L := by
  obtain ⟨A, c, rfl, hc, hC⟩ := hr
  obtain ⟨K, hK⟩ := ev_eq (impl_IsPartition_ev p hl) hb
  refine (impl_IsPartition.calls K A c p b W hC hc (hK K (Nat.le_refl _))).mono ?_
  rintro e W' ⟨rfl, hd⟩
  exact ⟨rfl, h.drawn hd⟩
theorem sum_st {s : Int} (h : St w W L) (hr : Reads (Kd.int .i64) W v p) (hp : isPartition p = true) (hs : isum p = s) :
    Calls Try.prog 59 #[v] W fun e W' => e = .returned (.int .i64 s) ∧ St w W' L := by
  obtain ⟨A, c, rfl, hc, hC⟩ := hr
  have hb := isPartition_bd hp
  obtain ⟨K, hK⟩ := ev_eq (impl_sum_ev p (by omega) (fun x hx => by have := hb.2.2 x hx; omega)) hs
  refine (impl_sum.calls K A c p s W hC hc (hK K (Nat.le_refl _))).mono ?_
  rintro e W' ⟨rfl, hd⟩
  exact ⟨rfl, h.drawn hd⟩
end
section
variable {W : World} {A Ap : Option Addr} {cq cp b5 b3 : Nat} {q p : List Int} {g : Nat} {P : List Int → List Int → Bool}
theorem removedLit_calls (eg : ∀ args w, (callFunc g args).run Try.prog w = .ok (.enter g args) w) (hg : Acc g P) (h5 : W.cell? ⟨b5, 0, none⟩ = some (.func (.func g) #[] #[])) (h3 : W.cell? ⟨b3, 0, none⟩ = some (.slice Ap p.length cp)) (hq : isPartition q = true) (hp : isPartition p = true)
    (hr : Kd.C (Kd.int .i64) W A q.length q) (hc : q.length ≤ cq) (hr' : Kd.C (Kd.int .i64) W Ap p.length p) (hc' : p.length ≤ cp) :
    Calls Try.prog 61 (#[.slice A q.length cq] ++ #[.pointer (some ⟨b5, 0, none⟩), .pointer (some ⟨b3, 0, none⟩)]) W fun e w' => e = .returned (.bool (P p q)) ∧ Below W.heap.size W w' := by
  have HC := Aside0.mk (hg W Ap cp p A cq q hp hq hr' hc' hr hc)
  clear hr hr' hg
  go_enter Try.func61, Try.ntmps61
  go_wp2_with (go_at_fn g; refine HC.out.mono ?_; rintro e w4 ⟨rfl, hb_⟩; have H4 := Aside0.mk hb_; clear hb_)
  go_ret
  exact ⟨by simp, H4.out⟩
end
/-- the partitions that arise from p by k cells more, those that P takes -/
def addedBy (P : List Int → List Int → Bool) (p : List Int) (k : Int) : List (List Int) := if isPartition p = true ∧ 0 ≤ k ∧ k ≤ 9 - isum p then (partsOf (isum p + k).toNat).filter (fun q => P q p) else []
/-- the partitions from which p arises so -/
def removedBy (P : List Int → List Int → Bool) (p : List Int) (k : Int) : List (List Int) := if isPartition p = true ∧ 0 ≤ k ∧ k ≤ isum p then (partsOf (isum p - k).toNat).filter (fun q => P p q) else []
theorem addedBy_bd (P : List Int → List Int → Bool) (p : List Int) (k : Int) : (addedBy P p k).length ≤ 387420489 ∧ ∀ r ∈ addedBy P p k, r.length ≤ 9 := by
  unfold addedBy
  by_cases h : isPartition p = true ∧ 0 ≤ k ∧ k ≤ 9 - isum p
  · rw [if_pos h]
    have h1 := partsOf_len (n := (isum p + k).toNat) (by omega)
    exact ⟨Nat.le_trans (List.length_filter_le _ _) h1, fun r hr => (isPartition_bd ((partsOf_mem (by omega)).1 (List.mem_filter.1 hr).1).1).2.1⟩
  · rw [if_neg h]
    exact ⟨by simp, by simp⟩
theorem removedBy_bd (P : List Int → List Int → Bool) (p : List Int) (k : Int) : (removedBy P p k).length ≤ 387420489 ∧ ∀ r ∈ removedBy P p k, r.length ≤ 9 := by
  unfold removedBy
  by_cases h : isPartition p = true ∧ 0 ≤ k ∧ k ≤ isum p
  · rw [if_pos h]
    have h0 := (isPartition_bd h.1).1
    have h1 := partsOf_len (n := (isum p - k).toNat) (by omega)
    exact ⟨Nat.le_trans (List.length_filter_le _ _) h1, fun r hr => (isPartition_bd ((partsOf_mem (by omega)).1 (List.mem_filter.1 hr).1).1).2.1⟩
  · rw [if_neg h]
    exact ⟨by simp, by simp⟩
set_option maxHeartbeats 8000000 in
set_option maxRecDepth 100000 in
theorem added_calls (g : Nat) (P : List Int → List Int → Bool) (eg : ∀ args w, (callFunc g args).run Try.prog w = .ok (.enter g args) w) (hg : Acc g P) (A : Option Addr) (c : Nat) (p : List Int) (k : Int) (w : World) (hr : Kd.C (Kd.int .i64) w A p.length p) (hc : p.length ≤ c) (hl : p.length ≤ 1048576) :
    Calls Try.prog 45 #[.slice A p.length c, .int .i64 k, .func (.func g) #[] #[]] w fun e w' => ∃ v, e = .returned v ∧ Kd.S (Kd.slice 3 (Kd.int .i64)) 22 w' w.heap.size (fun _ => True) v (addedBy P p k) ∧ Below w.heap.size w w' := by
  have C0 := Aside0.mk hr
  have H0 := Aside0.mk (St.start w)
  have HG := Aside0.mk hg
  clear hr hg
  unfold addedBy
  cases hp : isPartition p with
  | false =>
    rw [if_neg (fun e => by cases e.1)]
    have HP := Aside0.mk hp
    clear hp
    go_enter Try.func45, Try.ntmps45
    go_wp2_with (first
      | ((with_reducible refine gate_dst (N := 3) rfl ?_); refine zX (N := 3) (cs := #[.slice A p.length c]) (t := 22) ?_; intro b3 hb3 wb3 hxb3 hlb3; have H1 := Aside0.mk (St.addB H0.out hxb3 hb3 hlb3); clear hxb3 hb3 hlb3)
      | ((with_reducible refine gate_dst (N := 5) rfl ?_); refine zX (N := 5) (cs := #[.func (.func g) #[] #[]]) (t := 53) ?_; intro b5 hb5 wb5 hxb5 hlb5; have H2 := Aside0.mk (St.addB H1.out hxb5 hb5 hlb5); clear hxb5 hb5 hlb5; have z3 : wb5.cell? ⟨b3, 0, none⟩ = some (.slice A p.length c) := St.cellB H2.out 1 rfl 0 rfl)
      | (go_at_call 57; (with_reducible refine (isPart_st H2.out (H2.out.came C0.out hc) hl HP.out).mono ?_); rintro e w3 ⟨rfl, h_⟩; have H3 := Aside0.mk h_; clear h_; clear z3))
    go_ret
    exact ⟨_, rfl, Kd.S_nil _ _ _ _ _, H3.out.below⟩
  | true =>
    have hbd := isPartition_bd hp
    have hs0 := isum_ge (l := p) (fun x hx => (hbd.2.2 x hx).1)
    have HPP := Aside0.mk hp
    have HP := Aside0.mk hp
    obtain ⟨s, hs⟩ : ∃ s, isum p = s := ⟨_, rfl⟩
    rw [hs]
    have hs9 : s ≤ 9 := by have := hbd.1; omega
    rw [hs] at hs0
    have HS := Aside0.mk hs
    clear hp hs hbd
    by_cases hk : k < 0
    · rw [if_neg (fun e => by omega)]
      have hkb : decide (k < 0) = true := decide_eq_true hk
      clear hk
      go_enter Try.func45, Try.ntmps45
      go_wp2_with (first
        | ((with_reducible refine gate_dst (N := 3) rfl ?_); refine zX (N := 3) (cs := #[.slice A p.length c]) (t := 22) ?_; intro b3 hb3 wb3 hxb3 hlb3; have H1 := Aside0.mk (St.addB H0.out hxb3 hb3 hlb3); clear hxb3 hb3 hlb3)
        | ((with_reducible refine gate_dst (N := 5) rfl ?_); refine zX (N := 5) (cs := #[.func (.func g) #[] #[]]) (t := 53) ?_; intro b5 hb5 wb5 hxb5 hlb5; have H2 := Aside0.mk (St.addB H1.out hxb5 hb5 hlb5); clear hxb5 hb5 hlb5; have z3 : wb5.cell? ⟨b3, 0, none⟩ = some (.slice A p.length c) := St.cellB H2.out 1 rfl 0 rfl)
        | (go_at_call 57; (with_reducible refine (isPart_st H2.out (H2.out.came C0.out hc) hl HP.out).mono ?_); rintro e w3 ⟨rfl, h_⟩; have H3 := Aside0.mk h_; clear h_; clear z3))
      go_ret
      exact ⟨_, rfl, Kd.S_nil _ _ _ _ _, H3.out.below⟩
    · have hkb : decide (k < 0) = false := decide_eq_false hk
      have hw9 : IntKind.i64.wrap (9 - s) = 9 - s := IntWalk.i64_in _ (by omega)
      by_cases hk9 : 9 - s < k
      · rw [if_neg (fun e => by omega)]
        have hkc : decide (9 - s < k) = true := decide_eq_true hk9
        clear hk hk9
        go_enter Try.func45, Try.ntmps45
        go_wp2_with (first
          | ((with_reducible refine gate_dst (N := 3) rfl ?_); refine zX (N := 3) (cs := #[.slice A p.length c]) (t := 22) ?_; intro b3 hb3 wb3 hxb3 hlb3; have H1 := Aside0.mk (St.addB H0.out hxb3 hb3 hlb3); clear hxb3 hb3 hlb3)
          | ((with_reducible refine gate_dst (N := 5) rfl ?_); refine zX (N := 5) (cs := #[.func (.func g) #[] #[]]) (t := 53) ?_; intro b5 hb5 wb5 hxb5 hlb5; have H2 := Aside0.mk (St.addB H1.out hxb5 hb5 hlb5); clear hxb5 hb5 hlb5; have z3 : wb5.cell? ⟨b3, 0, none⟩ = some (.slice A p.length c) := St.cellB H2.out 1 rfl 0 rfl)
          | (go_at_call 57; (with_reducible refine (isPart_st H2.out (H2.out.came C0.out hc) hl HP.out).mono ?_); rintro e w3 ⟨rfl, h_⟩; have H3 := Aside0.mk h_; clear h_; clear z3; have z3 : w3.cell? ⟨b3, 0, none⟩ = some (.slice A p.length c) := St.cellB H3.out 1 rfl 0 rfl)
          | (go_at_call 59; (with_reducible refine (sum_st H3.out (H3.out.came C0.out hc) HPP.out HS.out).mono ?_); rintro e w4 ⟨rfl, h_⟩; have H4 := Aside0.mk h_; clear h_))
        go_ret
        exact ⟨_, rfl, Kd.S_nil _ _ _ _ _, H4.out.below⟩
      · rw [if_pos ⟨rfl, by omega, by omega⟩]
        have hkc : decide (9 - s < k) = false := decide_eq_false hk9
        obtain ⟨N, hN⟩ : ∃ N : Nat, N = (s + k).toNat := ⟨_, rfl⟩
        have eN : IntKind.i64.wrap (s + k) = (N : Int) := by rw [IntWalk.i64_in _ (by omega)]; omega
        have HN : Aside0 (N ≤ 9) := ⟨by omega⟩
        rw [← hN]
        clear hk hk9 hN
        go_enter Try.func45, Try.ntmps45
        go_wp2_with (first
          | ((with_reducible refine gate_dst (N := 3) rfl ?_); refine zX (N := 3) (cs := #[.slice A p.length c]) (t := 22) ?_; intro b3 hb3 wb3 hxb3 hlb3; have H1 := Aside0.mk (St.addB H0.out hxb3 hb3 hlb3); clear hxb3 hb3 hlb3)
          | ((with_reducible refine gate_dst (N := 5) rfl ?_); refine zX (N := 5) (cs := #[.func (.func g) #[] #[]]) (t := 53) ?_; intro b5 hb5 wb5 hxb5 hlb5; have H2 := Aside0.mk (St.addB H1.out hxb5 hb5 hlb5); clear hxb5 hb5 hlb5; have z3 : wb5.cell? ⟨b3, 0, none⟩ = some (.slice A p.length c) := St.cellB H2.out 1 rfl 0 rfl)
          | (go_at_call 57; (with_reducible refine (isPart_st H2.out (H2.out.came C0.out hc) hl HP.out).mono ?_); rintro e w3 ⟨rfl, h_⟩; have H3 := Aside0.mk h_; clear h_; clear z3; have z3 : w3.cell? ⟨b3, 0, none⟩ = some (.slice A p.length c) := St.cellB H3.out 1 rfl 0 rfl)
          | (go_at_call 59; (with_reducible refine (sum_st H3.out (H3.out.came C0.out hc) HPP.out HS.out).mono ?_); rintro e w4 ⟨rfl, h_⟩; have H4 := Aside0.mk h_; clear h_; clear z3; have z3 : w4.cell? ⟨b3, 0, none⟩ = some (.slice A p.length c) := St.cellB H4.out 1 rfl 0 rfl)
          | (go_at_call 59; (with_reducible refine (sum_st H4.out (H4.out.came C0.out hc) HPP.out HS.out).mono ?_); rintro e w5 ⟨rfl, h_⟩; have H5 := Aside0.mk h_; clear h_; clear z3; have HLAST := H5; have HZ5 : Aside0 (w5.cell? ⟨b5, 0, none⟩ = some (.func (.func g) #[] #[])) := ⟨St.cellB H5.out 0 rfl 0 rfl⟩; have HZ3 : Aside0 (w5.cell? ⟨b3, 0, none⟩ = some (.slice A p.length c)) := ⟨St.cellB H5.out 1 rfl 0 rfl⟩)
          | (go_at_call 60; refine (chosen_calls 64 #[.pointer (some ⟨b5, 0, none⟩), .pointer (some ⟨b3, 0, none⟩)] (enters_of Try.func64 (by kernel_rfl) rfl) (fun q => P q p) N HN.out _ ?hcc).mono ?_; (case hcc => (intro W Aq cq q hB hq hrq hcq; exact addedLit_calls eg HG.out ((hB.cell (World.block_lt_of_cell? _ _ HZ5.out)).trans HZ5.out) ((hB.cell (World.block_lt_of_cell? _ _ HZ3.out)).trans HZ3.out) hq HPP.out hrq hcq (Reads.C ((HLAST.out.quiet hB).came C0.out hc)).2 hc)); rintro e w9 ⟨v9, rfl, h1_, h2_⟩; obtain ⟨ok9, h_⟩ := HLAST.out.addS h2_ h1_; have H9 := Aside0.mk h_; clear h1_ h2_ h_))
        go_ret
        exact ⟨_, rfl, Kd.S_mono (H9.out.get 0 rfl) (fun _ _ => trivial), H9.out.below⟩
set_option maxHeartbeats 8000000 in
set_option maxRecDepth 100000 in
theorem removed_calls (g : Nat) (P : List Int → List Int → Bool) (eg : ∀ args w, (callFunc g args).run Try.prog w = .ok (.enter g args) w) (hg : Acc g P) (A : Option Addr) (c : Nat) (p : List Int) (k : Int) (w : World) (hr : Kd.C (Kd.int .i64) w A p.length p) (hc : p.length ≤ c) (hl : p.length ≤ 1048576) :
    Calls Try.prog 41 #[.slice A p.length c, .int .i64 k, .func (.func g) #[] #[]] w fun e w' => ∃ v, e = .returned v ∧ Kd.S (Kd.slice 3 (Kd.int .i64)) 22 w' w.heap.size (fun _ => True) v (removedBy P p k) ∧ Below w.heap.size w w' := by
  have C0 := Aside0.mk hr
  have H0 := Aside0.mk (St.start w)
  have HG := Aside0.mk hg
  clear hr hg
  unfold removedBy
  cases hp : isPartition p with
  | false =>
    rw [if_neg (fun e => by cases e.1)]
    have HP := Aside0.mk hp
    clear hp
    go_enter Try.func41, Try.ntmps41
    go_wp2_with (first
      | ((with_reducible refine gate_dst (N := 3) rfl ?_); refine zX (N := 3) (cs := #[.slice A p.length c]) (t := 22) ?_; intro b3 hb3 wb3 hxb3 hlb3; have H1 := Aside0.mk (St.addB H0.out hxb3 hb3 hlb3); clear hxb3 hb3 hlb3)
      | ((with_reducible refine gate_dst (N := 5) rfl ?_); refine zX (N := 5) (cs := #[.func (.func g) #[] #[]]) (t := 53) ?_; intro b5 hb5 wb5 hxb5 hlb5; have H2 := Aside0.mk (St.addB H1.out hxb5 hb5 hlb5); clear hxb5 hb5 hlb5; have z3 : wb5.cell? ⟨b3, 0, none⟩ = some (.slice A p.length c) := St.cellB H2.out 1 rfl 0 rfl)
      | (go_at_call 57; (with_reducible refine (isPart_st H2.out (H2.out.came C0.out hc) hl HP.out).mono ?_); rintro e w3 ⟨rfl, h_⟩; have H3 := Aside0.mk h_; clear h_; clear z3))
    go_ret
    exact ⟨_, rfl, Kd.S_nil _ _ _ _ _, H3.out.below⟩
  | true =>
    have hbd := isPartition_bd hp
    have hs0 := isum_ge (l := p) (fun x hx => (hbd.2.2 x hx).1)
    have HPP := Aside0.mk hp
    have HP := Aside0.mk hp
    obtain ⟨s, hs⟩ : ∃ s, isum p = s := ⟨_, rfl⟩
    rw [hs]
    have hs9 : s ≤ 9 := by have := hbd.1; omega
    rw [hs] at hs0
    have HS := Aside0.mk hs
    clear hp hs hbd
    by_cases hk : 0 ≤ k ∧ k ≤ s
    case neg =>
      rw [if_neg (fun e => hk e.2)]
      have HW : Aside0 (decide (0 ≤ k ∧ k ≤ s) = false) := ⟨decide_eq_false hk⟩
      clear hk
      go_enter Try.func41, Try.ntmps41
      go_wp2_with (first
        | ((with_reducible refine gate_dst (N := 3) rfl ?_); refine zX (N := 3) (cs := #[.slice A p.length c]) (t := 22) ?_; intro b3 hb3 wb3 hxb3 hlb3; have H1 := Aside0.mk (St.addB H0.out hxb3 hb3 hlb3); clear hxb3 hb3 hlb3)
        | ((with_reducible refine gate_dst (N := 5) rfl ?_); refine zX (N := 5) (cs := #[.func (.func g) #[] #[]]) (t := 53) ?_; intro b5 hb5 wb5 hxb5 hlb5; have H2 := Aside0.mk (St.addB H1.out hxb5 hb5 hlb5); clear hxb5 hb5 hlb5; have z3 : wb5.cell? ⟨b3, 0, none⟩ = some (.slice A p.length c) := St.cellB H2.out 1 rfl 0 rfl)
        | (go_at_call 57; (with_reducible refine (isPart_st H2.out (H2.out.came C0.out hc) hl HP.out).mono ?_); rintro e w3 ⟨rfl, h_⟩; have H3 := Aside0.mk h_; clear h_; clear z3; have z3 : w3.cell? ⟨b3, 0, none⟩ = some (.slice A p.length c) := St.cellB H3.out 1 rfl 0 rfl)
        | (go_at_call 59; (with_reducible refine (sum_st H3.out (H3.out.came C0.out hc) HPP.out HS.out).mono ?_); rintro e w4 ⟨rfl, h_⟩; have H4 := Aside0.mk h_; clear h_)
        | (go_at_call 58; refine (within_any _ _ _ _).mono ?_; rintro e w' ⟨rfl, rfl⟩; rw [HW.out]))
      go_ret
      exact ⟨_, rfl, Kd.S_nil _ _ _ _ _, H4.out.below⟩
    case pos =>
      rw [if_pos ⟨rfl, hk⟩]
      have HW : Aside0 (decide (0 ≤ k ∧ k ≤ s) = true) := ⟨decide_eq_true hk⟩
      obtain ⟨N, hN⟩ : ∃ N : Nat, N = (s - k).toNat := ⟨_, rfl⟩
      have eN : IntKind.i64.wrap (s - k) = (N : Int) := by rw [IntWalk.i64_in _ (by omega)]; omega
      have HN : Aside0 (N ≤ 9) := ⟨by omega⟩
      rw [← hN]
      clear hk hN
      go_enter Try.func41, Try.ntmps41
      go_wp2_with (first
        | ((with_reducible refine gate_dst (N := 3) rfl ?_); refine zX (N := 3) (cs := #[.slice A p.length c]) (t := 22) ?_; intro b3 hb3 wb3 hxb3 hlb3; have H1 := Aside0.mk (St.addB H0.out hxb3 hb3 hlb3); clear hxb3 hb3 hlb3)
        | ((with_reducible refine gate_dst (N := 5) rfl ?_); refine zX (N := 5) (cs := #[.func (.func g) #[] #[]]) (t := 53) ?_; intro b5 hb5 wb5 hxb5 hlb5; have H2 := Aside0.mk (St.addB H1.out hxb5 hb5 hlb5); clear hxb5 hb5 hlb5; have z3 : wb5.cell? ⟨b3, 0, none⟩ = some (.slice A p.length c) := St.cellB H2.out 1 rfl 0 rfl)
        | (go_at_call 57; (with_reducible refine (isPart_st H2.out (H2.out.came C0.out hc) hl HP.out).mono ?_); rintro e w3 ⟨rfl, h_⟩; have H3 := Aside0.mk h_; clear h_; clear z3; have z3 : w3.cell? ⟨b3, 0, none⟩ = some (.slice A p.length c) := St.cellB H3.out 1 rfl 0 rfl)
        | (go_at_call 59; (with_reducible refine (sum_st H3.out (H3.out.came C0.out hc) HPP.out HS.out).mono ?_); rintro e w4 ⟨rfl, h_⟩; have H4 := Aside0.mk h_; clear h_; clear z3; have z3 : w4.cell? ⟨b3, 0, none⟩ = some (.slice A p.length c) := St.cellB H4.out 1 rfl 0 rfl)
        | (go_at_call 58; refine (within_any _ _ _ _).mono ?_; rintro e w' ⟨rfl, rfl⟩; rw [HW.out])
        | (go_at_call 59; (with_reducible refine (sum_st H4.out (H4.out.came C0.out hc) HPP.out HS.out).mono ?_); rintro e w5 ⟨rfl, h_⟩; have H5 := Aside0.mk h_; clear h_; clear z3; have HLAST := H5; have HZ5 : Aside0 (w5.cell? ⟨b5, 0, none⟩ = some (.func (.func g) #[] #[])) := ⟨St.cellB H5.out 0 rfl 0 rfl⟩; have HZ3 : Aside0 (w5.cell? ⟨b3, 0, none⟩ = some (.slice A p.length c)) := ⟨St.cellB H5.out 1 rfl 0 rfl⟩)
        | (go_at_call 60; refine (chosen_calls 61 #[.pointer (some ⟨b5, 0, none⟩), .pointer (some ⟨b3, 0, none⟩)] (enters_of Try.func61 (by kernel_rfl) rfl) (fun q => P p q) N HN.out _ ?hcc).mono ?_; (case hcc => (intro W Aq cq q hB hq hrq hcq; exact removedLit_calls eg HG.out ((hB.cell (World.block_lt_of_cell? _ _ HZ5.out)).trans HZ5.out) ((hB.cell (World.block_lt_of_cell? _ _ HZ3.out)).trans HZ3.out) hq HPP.out hrq hcq (Reads.C ((HLAST.out.quiet hB).came C0.out hc)).2 hc)); rintro e w9 ⟨v9, rfl, h1_, h2_⟩; obtain ⟨ok9, h_⟩ := HLAST.out.addS h2_ h1_; have H9 := Aside0.mk h_; clear h1_ h2_ h_))
      go_ret
      exact ⟨_, rfl, Kd.S_mono (H9.out.get 0 rfl) (fun _ _ => trivial), H9.out.below⟩
end Go.Proofs.Ytaghidcmefbjdaa.Q

set_option linter.unusedVariables false
set_option linter.unusedSimpArgs false
namespace Go.Proofs.Ytaghidcmefbjdaa.Q
open Go.RowKit Go.Proofs.Ytaghidcmefbjdaa.F Go.Proofs.YtaghidcmefbjdaaW.PrintWords Go.Proofs.YtaghidcmefbjdaaW.PrintLast Go.Proofs.YtaghidcmefbjdaaW.PrintMore
theorem eqIntS_l0 (a b : List Int) (hl : a.length = b.length) (hb : a.length ≤ 1152921504606846976) : ∀ (d i : Nat), i + d = a.length → Ev (fun k => laws_eqIntS.l0 k a b (i : Int)) (decide (a.drop i = b.drop i)) := by
  intro d
  induction d with
  | zero =>
    intro i h
    refine Ev.step (fun k => by rw [laws_eqIntS.l0]) ?_
    refine ev_neg (by omega) (ev_val ?_)
    rw [List.drop_of_length_le (by omega), List.drop_of_length_le (by omega)]
    simp
  | succ d ih =>
    intro i h
    refine Ev.step (fun k => by rw [laws_eqIntS.l0]) ?_
    refine ev_pos (by omega) (ev_pos (by omega) (ev_pos (by omega) (ev_ite (fun he => ?_) (fun he => ev_val ?_))))
    · rw [wrap_succ (by omega)]
      refine ev_eq (ih (i + 1) (by omega)) ?_
      rw [drop_rd a i (by omega), drop_rd b i (by omega), he]
      simp
    · rw [drop_rd a i (by omega), drop_rd b i (by omega)]
      simp [he]
theorem eqIntS_ev (a b : List Int) (hb : a.length ≤ 1152921504606846976) : Ev (fun k => laws_eqIntS.f k a b) (decide (a = b)) := by
  unfold laws_eqIntS.f
  refine ev_ite (fun h => ?_) (fun h => ev_val ?_)
  · have := eqIntS_l0 a b (by omega) hb a.length 0 (by omega)
    simpa using this
  · have : a ≠ b := fun e => h (by rw [e])
    simp [this]
theorem eqIntS_same (a : List Int) (hb : a.length ≤ 1048576) : Ev (fun k => laws_eqIntS.f k a a) true := ev_eq (eqIntS_ev a a (by omega)) (by simp)
end Go.Proofs.Ytaghidcmefbjdaa.Q

set_option linter.unusedVariables false
set_option linter.unusedSimpArgs false
namespace Go.Proofs.Ytaghidcmefbjdaa.Q
open Go.RowKit Go.Proofs.Ytaghidcmefbjdaa.F Go.Proofs.YtaghidcmefbjdaaW.PrintWords Go.Proofs.YtaghidcmefbjdaaW.PrintLast Go.Proofs.YtaghidcmefbjdaaW.PrintMore
theorem toIntS_l0 (l : List Int) (hl : l.length ≤ 1048576) : ∀ (d i : Nat), i + d = l.length → Ev (fun k => laws_toIntS.l0 k l (l.take i ++ List.replicate d 0) (i : Int)) l := by
  intro d
  induction d with
  | zero =>
    intro i h
    refine Ev.step (fun k => by rw [laws_toIntS.l0]) ?_
    refine ev_neg (by omega) (ev_val ?_)
    simp [List.take_of_length_le (show l.length ≤ i by omega)]
  | succ d ih =>
    intro i h
    have hi : i < l.length := by omega
    refine Ev.step (fun k => by rw [laws_toIntS.l0]) ?_
    refine ev_pos (by omega) (ev_pos (by omega) (ev_pos (by simp; omega) ?_))
    have e : (l.take i ++ List.replicate (d + 1) 0).set (i : Int).toNat (rd l (i : Int)) = l.take (i + 1) ++ List.replicate d 0 := by
      rw [take_rd l i hi, List.set_append_right _ _ (by simp; omega)]
      simp [List.replicate_succ, Nat.min_eq_left (Nat.le_of_lt hi)]
    rw [e, wrap_succ (by omega)]
    exact ih (i + 1) (by omega)
theorem toIntS_ev (l : List Int) (hl : l.length ≤ 1048576) : Ev (fun k => laws_toIntS.f k l) l := by
  unfold laws_toIntS.f
  refine ev_pos (by omega) (ev_pos (by simp; omega) ?_)
  have := toIntS_l0 l hl l.length 0 (by omega)
  simpa using this
end Go.Proofs.Ytaghidcmefbjdaa.Q

set_option linter.unusedVariables false
set_option linter.unusedSimpArgs false
namespace Go.Proofs.Ytaghidcmefbjdaa.Q
open Go.RowKit Go.Proofs.Ytaghidcmefbjdaa.F Go.Proofs.YtaghidcmefbjdaaW.PrintWords Go.Proofs.YtaghidcmefbjdaaW.PrintLast Go.Proofs.YtaghidcmefbjdaaW.PrintMore
/-- m, m + 1 and so on, n of them -/
def marks (m n : Nat) : List Int := (List.range n).map (fun i => ((m + i : Nat) : Int))
theorem marks_length (m n : Nat) : (marks m n).length = n := by simp [marks]
theorem marks_succ (m n : Nat) : marks m (n + 1) = marks m n ++ [((m + n : Nat) : Int)] := by simp [marks, List.range_succ]
theorem marks_rd (m n i : Nat) (h : i < n) : rd (marks m n) (i : Int) = ((m + i : Nat) : Int) := by
  rw [rd_eq _ i (by rw [marks_length]; exact h)]; simp [marks]
theorem markIntS_ev (l : List Int) (m : Nat) (hl : l.length ≤ 1152921504606846976) (hm : m ≤ 2305843009213693952) : Ev (fun k => laws_markIntS.f k l (m : Int)) (((m + l.length : Nat) : Int), marks m l.length) := by
  unfold laws_markIntS.f
  refine downTo (P := fun i => Ev (fun k => laws_markIntS.l0 k (marks m i ++ l.drop i) ((m + i : Nat) : Int) (i : Int)) (((m + l.length : Nat) : Int), marks m l.length)) l.length ?_ ?_ 0 (by omega)
  · refine Ev.step (fun k => by rw [laws_markIntS.l0]) ?_
    rw [List.drop_length, List.append_nil]
    exact ev_neg (by rw [marks_length]; omega) (ev_val rfl)
  · intro i hi ih
    refine Ev.step (fun k => by rw [laws_markIntS.l0]) ?_
    refine ev_pos (by simp [marks_length]; omega) (ev_pos (by omega) ?_)
    have e : (marks m i ++ l.drop i).set (i : Int).toNat ((m + i : Nat) : Int) = marks m (i + 1) ++ l.drop (i + 1) := by
      rw [Int.toNat_natCast, List.set_append_right _ _ (by rw [marks_length]; omega), marks_length, Nat.sub_self, drop_rd l i hi, marks_succ]
      simp
    rw [e, wrap_succ (by omega), wrap_succ (by omega)]
    exact ih
theorem heldIntS_ev (m n : Nat) (hl : n ≤ 1152921504606846976) (hm : m ≤ 2305843009213693952) : Ev (fun k => laws_heldIntS.f k (marks m n) (m : Int)) ((m + n : Nat) : Int) := by
  unfold laws_heldIntS.f
  refine downTo (P := fun i => Ev (fun k => laws_heldIntS.l0 k (marks m n) ((m + i : Nat) : Int) (i : Int)) ((m + n : Nat) : Int)) n ?_ ?_ 0 (by omega)
  · refine Ev.step (fun k => by rw [laws_heldIntS.l0]) ?_
    exact ev_neg (by rw [marks_length]; omega) (ev_val rfl)
  · intro i hi ih
    refine Ev.step (fun k => by rw [laws_heldIntS.l0]) ?_
    refine ev_pos (by rw [marks_length]; omega) (ev_pos (by omega) (ev_pos (marks_rd m n i hi) ?_))
    rw [wrap_succ (by omega), wrap_succ (by omega)]
    exact ih
end Go.Proofs.Ytaghidcmefbjdaa.Q

set_option linter.unusedVariables false
set_option linter.unusedSimpArgs false
namespace Go.Proofs.Ytaghidcmefbjdaa.Q
open Go.RowKit Go.Proofs.Ytaghidcmefbjdaa.F Go.Proofs.YtaghidcmefbjdaaW.PrintWords Go.Proofs.YtaghidcmefbjdaaW.PrintLast Go.Proofs.YtaghidcmefbjdaaW.PrintMore
section
variable {w W : World} {L L' : List Ob} {ok ok' : Nat → Prop} {v v' : Value} {xs ys : List Int}
theorem toIntS_st (h : St w W L) (hr : Reads (Kd.int .i64) W v xs) (hl : xs.length ≤ 1048576) :
    Calls Try.prog 10 #[v] W fun e W' => ∃ v1 ok1, e = .returned v1 ∧ St w W' (obR (Kd.int .i64) 3 w ok1 v1 xs :: L) := by
  obtain ⟨A, c, rfl, hc, hC⟩ := hr
  obtain ⟨K, hK⟩ := toIntS_ev xs hl
  refine (laws_toIntS.calls K A c xs xs W hC hc (hK K (Nat.le_refl _))).mono ?_
  rintro e W' ⟨v1, rfl, hR, hB⟩
  obtain ⟨ok1, h1⟩ := h.addR hB hR
  exact ⟨v1, ok1, rfl, h1⟩
theorem eqIntS_st (h : St w W L) (hr : Reads (Kd.int .i64) W v xs) (hr' : Reads (Kd.int .i64) W v' ys) (hl : xs.length ≤ 1152921504606846976) :
    Calls Try.prog 13 #[v, v'] W fun e W' => e = .returned (.bool (decide (xs = ys))) ∧ St w W' L := by
  obtain ⟨A, c, rfl, hc, hC⟩ := hr
  obtain ⟨A', c', rfl, hc', hC'⟩ := hr'
  obtain ⟨K, hK⟩ := eqIntS_ev xs ys hl
  refine (laws_eqIntS.calls K A c xs A' c' ys _ W hC hc hC' hc' (hK K (Nat.le_refl _))).mono ?_
  rintro e W' ⟨rfl, hd⟩
  exact ⟨rfl, h.drawn hd⟩
theorem eqIntS_st_same (h : St w W L) (hr : Reads (Kd.int .i64) W v xs) (hr' : Reads (Kd.int .i64) W v' xs) (hl : xs.length ≤ 1152921504606846976) :
    Calls Try.prog 13 #[v, v'] W fun e W' => e = .returned (.bool true) ∧ St w W' L := by
  refine (eqIntS_st h hr hr' hl).mono ?_
  rintro e W' ⟨rfl, hd⟩
  exact ⟨by simp, hd⟩
theorem markIntS_st (h : St w W L) (i : Nat) (hi : L[i]? = some (obR (Kd.int .i64) 3 w ok v xs)) (m : Nat) (hm : m ≤ 2305843009213693952) (hl : xs.length ≤ 1152921504606846976) (hL : L.set i (obR (Kd.int .i64) 3 w ok v (marks m xs.length)) = L') :
    Calls Try.prog 14 #[v, .int .i64 (m : Int)] W fun e W' => e = .returned (.int .i64 ((m + xs.length : Nat) : Int)) ∧ St w W' L' := by
  obtain ⟨K, hK⟩ := markIntS_ev xs m hl hm
  have hR : Kd.R (Kd.int .i64) 3 W w.heap.size ok v xs := h.get i hi
  refine (laws_markIntS.calls K ok v xs (m : Int) _ _ w W h.below hR (hK K (Nat.le_refl _))).mono ?_
  rintro e W' ⟨rfl, hr, hb, hk⟩
  exact ⟨rfl, h.mark (o' := obR (Kd.int .i64) 3 w ok v (marks m xs.length)) i hi rfl firmR hb hk (Kd.R_mono (Kd.R_tight rfl hr) (fun k hk => hR.1 k hk.symm)) hL⟩
theorem heldIntS_st (h : St w W L) (n : Nat) (m : Nat) (hr : Reads (Kd.int .i64) W v (marks m n)) (hm : m ≤ 2305843009213693952) (hl : n ≤ 1152921504606846976) :
    Calls Try.prog 43 #[v, .int .i64 (m : Int)] W fun e W' => e = .returned (.int .i64 ((m + n : Nat) : Int)) ∧ St w W' L := by
  obtain ⟨A, c, rfl, hc, hC⟩ := hr
  obtain ⟨K, hK⟩ := heldIntS_ev m n hl hm
  refine (laws_heldIntS.calls K A c _ (m : Int) _ W hC hc (hK K (Nat.le_refl _))).mono ?_
  rintro e W' ⟨rfl, hd⟩
  exact ⟨rfl, h.drawn hd⟩
end
end Go.Proofs.Ytaghidcmefbjdaa.Q

set_option linter.unusedVariables false
set_option linter.unusedSimpArgs false
namespace Go.Proofs.Ytaghidcmefbjdaa.Q
open Go.RowKit Go.Proofs.Ytaghidcmefbjdaa.F Go.Proofs.YtaghidcmefbjdaaW.PrintWords Go.Proofs.YtaghidcmefbjdaaW.PrintLast Go.Proofs.YtaghidcmefbjdaaW.PrintMore
theorem spec_l2Size_ev (l : List Int) (hl : l.length ≤ 1048576) (h : ∀ x ∈ l, 0 ≤ x ∧ x ≤ 1000000) : Ev (fun k => spec_l2Size.f k l) (isum l) := by
  unfold spec_l2Size.f
  have key : ∀ i, i ≤ l.length → ∀ s : Int, 0 ≤ s → s ≤ 1000000 * i → Ev (fun k => spec_l2Size.l0 k l s (i : Int)) (s + isum (l.drop i)) := by
    refine downTo l.length ?_ ?_
    · intro s a b
      refine Ev.step (fun k => by rw [spec_l2Size.l0]) ?_
      exact ev_neg (by omega) (ev_val (by rw [List.drop_length]; simp [isum]))
    · intro i hi ih s a b
      have hx := h _ (rd_mem l i hi)
      refine Ev.step (fun k => by rw [spec_l2Size.l0]) ?_
      refine ev_pos (by omega) (ev_pos (by omega) ?_)
      rw [wrap_succ (by omega), wrap_id (by omega) (by omega)]
      refine ev_eq (ih _ (by omega) (by omega)) ?_
      rw [drop_rd l i hi]
      simp only [isum]; omega
  have := key 0 (by omega) 0 (by omega) (by omega)
  simpa using this
end Go.Proofs.Ytaghidcmefbjdaa.Q

set_option linter.unusedVariables false
set_option linter.unusedSimpArgs false
namespace Go.Proofs.Ytaghidcmefbjdaa.Q
open Go.RowKit Go.Proofs.Ytaghidcmefbjdaa.F Go.Proofs.YtaghidcmefbjdaaW.PrintWords Go.Proofs.YtaghidcmefbjdaaW.PrintLast Go.Proofs.YtaghidcmefbjdaaW.PrintMore
section
variable {w W : World} {L : List Ob} {v : Value} {p : List Int}
/-- a fresh literal of no whole number -/
theorem St.nilAt (h : St w W L) : St w (W.alloc (.cells #[] 3 (0, 0))) (obR (Kd.int .i64) 3 w (fun k => k = W.heap.size) (.slice (some ⟨W.heap.size, 0, none⟩) 0 0) [] :: L) := by
  have e1 : (W.alloc (.cells #[] 3 (0, 0))).heap.size = W.heap.size + 1 := by show (W.heap.push _).size = _; exact Array.size_push ..
  refine h.add (o := obR (Kd.int .i64) 3 w (fun k => k = W.heap.size) (.slice (some ⟨W.heap.size, 0, none⟩) 0 0) []) (below_alloc (Below.refl _ _) _) (fun k hk => ?_) ?_ firmR
  · have h1 : k = W.heap.size := hk
    omega
  · refine ⟨fun k hk => ?_, [], ⟨rfl, .inr ⟨W.heap.size, 0, #[], rfl, h.below.size, ?_, Nat.le_refl _, by unfold maxLen; omega, rfl, rfl⟩⟩, Reps.none _ _⟩
    · simpa [Value.ownBlock] using hk.symm
    · show (W.heap.push _)[W.heap.size]? = _
      exact Array.getElem?_push_size
theorem St.nilAtE (h : St w W L) {b : Nat} (hb : b = W.heap.size) : St w (W.alloc (.cells #[] 3 (0, 0))) (obR (Kd.int .i64) 3 w (fun k => k = b) (.slice (some ⟨b, 0, none⟩) 0 0) [] :: L) := by
  subst hb
  exact h.nilAt
theorem St.boxE (h : St w W L) (cs : Array Value) (t : Nat) {b : Nat} (hb : b = W.heap.size) : St w (W.alloc (.cells cs t (0, 0))) (obB b cs t :: L) := by
  subst hb
  exact St.box h cs t
theorem l2Size_st {s : Int} (h : St w W L) (hr : Reads (Kd.int .i64) W v p) (hp : isPartition p = true) (hs : isum p = s) :
    Calls Try.prog 39 #[v] W fun e W' => e = .returned (.int .i64 s) ∧ St w W' L := by
  obtain ⟨A, c, rfl, hc, hC⟩ := hr
  have hb := isPartition_bd hp
  obtain ⟨K, hK⟩ := ev_eq (spec_l2Size_ev p (by omega) (fun x hx => by have := hb.2.2 x hx; omega)) hs
  refine (spec_l2Size.calls K A c p s W hC hc (hK K (Nat.le_refl _))).mono ?_
  rintro e W' ⟨rfl, hd⟩
  exact ⟨rfl, h.drawn hd⟩
theorem specParts_st {n : Nat} (h : St w W L) (hn : n ≤ 9) :
    Calls Try.prog 50 #[.int .i64 (n : Int)] W fun e W' => ∃ v ok, e = .returned v ∧ St w W' (obS (Kd.slice 3 (Kd.int .i64)) 22 w ok v (partsOf n) :: L) := by
  obtain ⟨K, hK⟩ := spec_PartitionsOf_ev n hn
  refine (spec_PartitionsOf.calls K _ _ W (hK K (Nat.le_refl _))).mono ?_
  rintro e W' ⟨v, rfl, hS, hB⟩
  obtain ⟨ok, h1⟩ := h.addS hB hS
  exact ⟨v, ok, rfl, h1⟩
end
section
variable {ops : Array Oper} {oi : Oper} {a : Act} {Q : Exit → Act → World → Prop} {Kc : Act → World → Prop} {w W : World} {L : List Ob} {ok : Nat → Prop} {v : Value} {xs ys : List Int}
/-- append(v, ys...) of whole numbers, in a region that draws -/
theorem St.putInts_step {A : Option Addr} {m cA : Nat} (hw : Region.wanted oi (yielded ops a.tmps) = true) (s y : Operand) (ho : oi.op = .call { callee := .builtin .append, args := #[s, y], argTypes := #[22, 22] })
    (h : St w W L) (n : Nat) (hn : L[n]? = some (obR (Kd.int .i64) 3 w ok v xs)) (hs : a.eval s = v) (hx : a.eval y = .slice A m cA) (HR : Kd.C (Kd.int .i64) W A m ys) (hl : (xs.length + m) * 8 ≤ 140737488355328)
    (hk : ∀ v1 w1 ok1, St w w1 (L.set n (obR (Kd.int .i64) 3 w ok1 v1 (xs ++ ys))) → Kc (a.put oi.dst v1) w1) :
    if Region.wanted oi (yielded ops a.tmps) = true then Oper.wp Try.prog oi a W Kc Q else Kc (a.put oi.dst undef) W := by
  have hR : Kd.R (Kd.int .i64) 3 W w.heap.size ok v xs := h.get n hn
  refine Kd.R_append_rows_step (Kd.int .i64) (Rr := (Kd.int .i64).K W) (w0 := w) w.heap.size hw s y 22 3 (.int .i64 0) 8 ho Try.underlying22 info3 rfl (by decide) (by omega) v xs ys A m cA (fun k => ok k ∨ W.heap.size ≤ k) (fun _ => False) hs hx (Kd.R_mono hR (fun k hk => .inl hk)) HR (fun _ _ h => h) (fun _ h => h.elim) (fun _ h => .inr h) h.below h.below.size hl ?_
  intro v1 w1 hR1 hB hg _
  exact hk v1 w1 _ (St.redo1 (o' := obR (Kd.int .i64) 3 w (fun k => (ok k ∨ W.heap.size ≤ k) ∧ w.heap.size ≤ k ∧ k < w1.heap.size) v1 (xs ++ ys)) h n hn ⟨hg.size, fun k hk hne => hg.block k hk (fun e2 => hne (hR.1 k e2.symm))⟩ hB ⟨fun k hk => hk, Kd.R_mono (Kd.R_bound hR1) (fun k hk => ⟨hk.1, hk.2.1, hk.2.2.1⟩), firmR⟩)
end
end Go.Proofs.Ytaghidcmefbjdaa.Q

set_option linter.unusedVariables false
set_option linter.unusedSimpArgs false
namespace Go.Proofs.Ytaghidcmefbjdaa.Q
open Go.RowKit Go.Proofs.Ytaghidcmefbjdaa.F Go.Proofs.YtaghidcmefbjdaaW.PrintWords Go.Proofs.YtaghidcmefbjdaaW.PrintLast Go.Proofs.YtaghidcmefbjdaaW.PrintMore
def isInside (q p : List Int) : Bool := isPartition q && isPartition p && (List.range q.length).all (fun i => decide (rd q (i : Int) ≤ at0 p (i : Int)))
theorem inside_all (q p : List Int) (i : Nat) : ((List.range q.length).all (fun i => decide (rd q (i : Int) ≤ at0 p (i : Int))) = true) ↔ ∀ j, j < q.length → rd q (j : Int) ≤ at0 p (j : Int) := by
  rw [List.all_eq_true]
  constructor
  · intro h j hj; have := h j (List.mem_range.2 hj); simpa using this
  · intro h j hj; simpa using h j (List.mem_range.1 hj)
theorem isInside_len {q p : List Int} (h : isInside q p = true) : isPartition q = true ∧ isPartition p = true ∧ q.length ≤ p.length ∧ ∀ j, j < q.length → rd q (j : Int) ≤ rd p (j : Int) := by
  unfold isInside at h
  simp only [Bool.and_eq_true] at h
  obtain ⟨⟨h1, h2⟩, h3⟩ := h
  rw [inside_all q p 0] at h3
  have hb := (isPartition_bd h1).2.2
  have hlen : q.length ≤ p.length := by
    apply Classical.byContradiction
    intro hn
    have := h3 p.length (by omega)
    rw [at0_out _ _ (.inr (by omega))] at this
    have := (hb _ (rd_mem q p.length (by omega))).1
    omega
  refine ⟨h1, h2, hlen, fun j hj => ?_⟩
  have := h3 j hj
  rwa [at0_nat p j (by omega)] at this
theorem impl_IsInside_ev (q p : List Int) (hq : q.length ≤ 1048576) (hp : p.length ≤ 1048576) : Ev (fun k => impl_IsInside.f k q p) (isInside q p) := by
  unfold impl_IsInside.f isInside
  refine Ev.bind (impl_IsPartition_ev q hq) (ev_ite (fun h1 => ?_) (fun h1 => ?_))
  · refine Ev.bind (impl_IsPartition_ev p hp) (Ev.step (fun k => by rw [impl_IsInside.j0]) ?_)
    rw [h1, Bool.true_and]
    by_cases h2 : isPartition p = true
    · rw [h2, Bool.true_and]
      refine ev_neg (by simp) ?_
      have key : ∀ i, i ≤ q.length → ∃ b, Ev (fun k => impl_IsInside.l0 k p q (q.length : Int) (i : Int)) b ∧ (b = true ↔ ∀ j, i ≤ j → j < q.length → rd q (j : Int) ≤ at0 p (j : Int)) := by
        refine downTo q.length ?_ ?_
        · refine ⟨true, ?_, by simp; intro j a b; omega⟩
          refine Ev.step (fun k => by rw [impl_IsInside.l0]) ?_
          exact ev_neg (by omega) (ev_val rfl)
        · rintro i hi ⟨b, hb, hiff⟩
          by_cases hc : rd q (i : Int) > at0 p (i : Int)
          · refine ⟨false, ?_, ?_⟩
            · refine Ev.step (fun k => by rw [impl_IsInside.l0]) ?_
              exact ev_pos (by omega) (ev_pos (by omega) (ev_pos (by omega) (ev_bindc (impl_at_eq p _ hp) (ev_pos hc (ev_val rfl)))))
            · constructor
              · intro h; cases h
              · intro h; have := h i (Nat.le_refl _) hi; omega
          · refine ⟨b, ?_, ?_⟩
            · refine Ev.step (fun k => by rw [impl_IsInside.l0]) ?_
              refine ev_pos (by omega) (ev_pos (by omega) (ev_pos (by omega) (ev_bindc (impl_at_eq p _ hp) (ev_neg hc ?_))))
              rw [wrap_succ (by omega)]; exact hb
            · rw [hiff]
              constructor
              · intro h j a c
                by_cases e : j = i
                · subst e; omega
                · exact h j (by omega) c
              · intro h j a c; exact h j (by omega) c
      obtain ⟨b, hb, hiff⟩ := key 0 (by omega)
      refine ev_eq hb ?_
      rw [Bool.eq_iff_iff, hiff, inside_all q p 0]
      exact ⟨fun h j hj => h j (by omega) hj, fun h j _ hj => h j hj⟩
    · simp only [Bool.not_eq_true] at h2
      rw [h2]
      exact ev_pos rfl (ev_val rfl)
  · simp only [Bool.not_eq_true] at h1
    rw [h1]
    refine Ev.step (fun k => by rw [impl_IsInside.j0]) ?_; exact ev_pos rfl (ev_val rfl)
theorem spec_IsInside_ev (q p : List Int) (hq : q.length ≤ 1048576) (hp : p.length ≤ 1048576) : Ev (fun k => spec_IsInside.f k q p) (isInside q p) := by
  unfold spec_IsInside.f isInside
  refine Ev.bind (spec_IsPartition_ev q hq) (ev_ite (fun h1 => ?_) (fun h1 => ?_))
  · refine Ev.bind (spec_IsPartition_ev p hp) (ev_ite (fun h2 => ?_) (fun h2 => ?_))
    · rw [h1, h2, Bool.true_and, Bool.true_and]
      refine Ev.step (fun k => by rw [spec_IsInside.j0]) ?_
      have hb := (isPartition_bd h1).2.2
      by_cases hl : (q.length : Int) > (p.length : Int)
      · refine ev_pos (decide_eq_true hl) (ev_val ?_)
        symm
        rw [Bool.eq_false_iff]
        intro h
        rw [inside_all q p 0] at h
        have := h p.length (by omega)
        rw [at0_out _ _ (.inr (by omega))] at this
        have := (hb _ (rd_mem q p.length (by omega))).1
        omega
      · refine ev_neg (by simpa using hl) ?_
        have key : ∀ i, i ≤ q.length → ∃ b, Ev (fun k => spec_IsInside.l0 k q p (i : Int)) b ∧ (b = true ↔ ∀ j, i ≤ j → j < q.length → rd q (j : Int) ≤ at0 p (j : Int)) := by
          refine downTo q.length ?_ ?_
          · refine ⟨true, ?_, by simp; intro j a b; omega⟩
            refine Ev.step (fun k => by rw [spec_IsInside.l0]) ?_
            exact ev_neg (by omega) (ev_val rfl)
          · rintro i hi ⟨b, hb, hiff⟩
            have ea := at0_nat p i (by omega)
            by_cases hc : rd q (i : Int) > rd p (i : Int)
            · refine ⟨false, ?_, ?_⟩
              · refine Ev.step (fun k => by rw [spec_IsInside.l0]) ?_
                exact ev_pos (by omega) (ev_pos (by omega) (ev_pos (by omega) (ev_pos hc (ev_val rfl))))
              · constructor
                · intro h; cases h
                · intro h; have := h i (Nat.le_refl _) hi; omega
            · refine ⟨b, ?_, ?_⟩
              · refine Ev.step (fun k => by rw [spec_IsInside.l0]) ?_
                refine ev_pos (by omega) (ev_pos (by omega) (ev_pos (by omega) (ev_neg hc ?_)))
                rw [wrap_succ (by omega)]; exact hb
              · rw [hiff]
                constructor
                · intro h j a c
                  by_cases e : j = i
                  · subst e; omega
                  · exact h j (by omega) c
                · intro h j a c; exact h j (by omega) c
        obtain ⟨b, hb, hiff⟩ := key 0 (by omega)
        refine ev_eq hb ?_
        rw [Bool.eq_iff_iff, hiff, inside_all q p 0]
        exact ⟨fun h j hj => h j (by omega) hj, fun h j _ hj => h j hj⟩
    · simp only [Bool.not_eq_true] at h2
      rw [h1, h2]
      refine Ev.step (fun k => by rw [spec_IsInside.j0]) ?_; exact ev_pos rfl (ev_val rfl)
  · simp only [Bool.not_eq_true] at h1
    rw [h1]
    refine Ev.step (fun k => by rw [spec_IsInside.j0]) ?_; exact ev_pos rfl (ev_val rfl)
theorem impl_IsShape_ev (o n : List Int) (ho : o.length ≤ 1048576) (hn : n.length ≤ 1048576) : Ev (fun k => impl_IsShape.f k o n) (isInside n o) := by
  unfold impl_IsShape.f
  exact Ev.bind (impl_IsInside_ev n o hn ho) (ev_val rfl)
theorem spec_IsShape_ev (o n : List Int) (ho : o.length ≤ 1048576) (hn : n.length ≤ 1048576) : Ev (fun k => spec_IsShape.f k o n) (isInside n o) := by
  unfold spec_IsShape.f
  exact Ev.bind (spec_IsInside_ev n o hn ho) (ev_val rfl)
end Go.Proofs.Ytaghidcmefbjdaa.Q

set_option linter.unusedVariables false
set_option linter.unusedSimpArgs false
namespace Go.Proofs.Ytaghidcmefbjdaa.Q
open Go.RowKit Go.Proofs.Ytaghidcmefbjdaa.F Go.Proofs.YtaghidcmefbjdaaW.PrintWords Go.Proofs.YtaghidcmefbjdaaW.PrintLast Go.Proofs.YtaghidcmefbjdaaW.PrintMore
/-- how far row i reaches -/
def reachOf (n : List Int) (m : List (List Int)) (i : Nat) : Int := at0 n (i : Int) + ((rd_L1 m (i : Int)).length : Int)
/-- the outer partition: how long each row reaches -/
def outerOf (n : List Int) (m : List (List Int)) : List Int := (List.range m.length).map (reachOf n m)
def hasShape (n : List Int) (m : List (List Int)) : Bool := isPartition n && decide (n.length ≤ m.length) && isInside n (outerOf n m)
def shapeOf (n : List Int) (m : List (List Int)) : List Int × List Int × Bool := if hasShape n m then (outerOf n m, n, true) else ([], [], false)
theorem outerOf_length (n : List Int) (m : List (List Int)) : (outerOf n m).length = m.length := by simp [outerOf]
theorem outerOf_rd (n : List Int) (m : List (List Int)) (i : Nat) (h : i < m.length) : rd (outerOf n m) (i : Int) = at0 n (i : Int) + ((rd_L1 m (i : Int)).length : Int) := by
  rw [rd_eq _ i (by rw [outerOf_length]; exact h)]
  simp [outerOf, reachOf]
theorem at0_bd {n : List Int} (h : isPartition n = true) (i : Int) : 0 ≤ at0 n i ∧ at0 n i ≤ 9 := by
  have hb := (isPartition_bd h).2.2
  unfold at0
  split
  · rename_i hi
    obtain ⟨j, rfl⟩ : ∃ j : Nat, i = (j : Int) := ⟨i.toNat, by omega⟩
    have := hb _ (rd_mem n j (by omega))
    omega
  · omega
/-- what has a shape is small -/
theorem hasShape_bd {n : List Int} {m : List (List Int)} (h : hasShape n m = true) : isPartition n = true ∧ n.length ≤ m.length ∧ m.length ≤ 9 ∧ isPartition (outerOf n m) = true ∧ (∀ i, i < m.length → 1 ≤ at0 n (i : Int) + ((rd_L1 m (i : Int)).length : Int) ∧ at0 n (i : Int) + ((rd_L1 m (i : Int)).length : Int) ≤ 9) := by
  unfold hasShape at h
  simp only [Bool.and_eq_true, decide_eq_true_eq] at h
  obtain ⟨⟨h1, h2⟩, h3⟩ := h
  obtain ⟨_, h4, _, _⟩ := isInside_len h3
  obtain ⟨_, g2, g3⟩ := isPartition_bd h4
  rw [outerOf_length] at g2
  refine ⟨h1, h2, g2, h4, fun i hi => ?_⟩
  have := g3 _ (rd_mem (outerOf n m) i (by rw [outerOf_length]; exact hi))
  rw [outerOf_rd n m i hi] at this
  exact this
theorem range_snoc' (n : List Int) (m : List (List Int)) (i : Nat) : (List.range (i + 1)).map (reachOf n m) = (List.range i).map (reachOf n m) ++ [reachOf n m i] := by simp [List.range_succ]
end Go.Proofs.Ytaghidcmefbjdaa.Q

set_option linter.unusedVariables false
set_option linter.unusedSimpArgs false
namespace Go.Proofs.Ytaghidcmefbjdaa.Q
open Go.RowKit Go.Proofs.Ytaghidcmefbjdaa.F Go.Proofs.YtaghidcmefbjdaaW.PrintWords Go.Proofs.YtaghidcmefbjdaaW.PrintLast Go.Proofs.YtaghidcmefbjdaaW.PrintMore
theorem all_step {P : Nat → Prop} [DecidablePred P] {N i : Nat} (hp : P i) : decide (∀ k, k < N → i ≤ k → P k) = decide (∀ k, k < N → i + 1 ≤ k → P k) := by
  rw [decide_eq_decide]
  constructor
  · intro h k h1 h2; exact h k h1 (by omega)
  · intro h k h1 h2
    by_cases e : k = i
    · rw [e]; exact hp
    · exact h k h1 (by omega)
theorem all_fail {P : Nat → Prop} [DecidablePred P] {N i : Nat} (hi : i < N) (hp : ¬ P i) : decide (∀ k, k < N → i ≤ k → P k) = false := decide_eq_false (fun h => hp (h i hi (Nat.le_refl _)))
theorem all_done {P : Nat → Prop} [DecidablePred P] {N i : Nat} (hi : N ≤ i) : decide (∀ k, k < N → i ≤ k → P k) = true := decide_eq_true (fun k h1 h2 => by omega)
/-- no two of the new cells stand in one column -/
def hCells (o n : List Int) (i : Nat) : Bool := decide (∀ k, k < o.length → i ≤ k → rd o (k : Int) ≤ at0 n ((k : Int) - 1))
def hStrip (o n : List Int) : Bool := isInside n o && hCells o n 1
/-- no two of the new cells stand in one row -/
def vCells (o n : List Int) (i : Nat) : Bool := decide (∀ k, k < o.length → i ≤ k → rd o (k : Int) ≤ at0 n (k : Int) + 1)
def vStrip (o n : List Int) : Bool := isInside n o && vCells o n 0
section
variable {o n : List Int}
theorem impl_hStrip_ev (ho : isPartition o = true) (hn : isPartition n = true) : Ev (fun k => impl_IsHorizontalStrip.f k o n) (hStrip o n) := by
  have h1 := (isPartition_bd ho).2.1
  have h2 := (isPartition_bd hn).2.1
  have key : ∀ d i : Nat, i + d = o.length → 1 ≤ i → Ev (fun k => impl_IsHorizontalStrip.l0 k (i : Int) o n) (hCells o n i) := by
    intro d
    induction d with
    | zero =>
      intro i hi _
      exact Ev.step (fun k => by rw [impl_IsHorizontalStrip.l0]) (ev_neg (by omega) (ev_val (all_done (by omega)).symm))
    | succ d ih =>
      intro i hi hi1
      refine Ev.step (fun k => by rw [impl_IsHorizontalStrip.l0]) (ev_pos (by omega) (ev_pos (by omega) ?_))
      rw [wrap_id (i := (i : Int) - 1) (by omega) (by omega)]
      refine ev_bindc (impl_at_eq n _ (by omega)) (ev_ite (fun h => ev_val (all_fail (by omega) (by omega)).symm) (fun h => ?_))
      rw [wrap_succ (by omega)]
      have h3 := ih (i + 1) (by omega) (by omega)
      unfold hCells at h3 ⊢
      rw [all_step (P := fun k : Nat => rd o (k : Int) ≤ at0 n ((k : Int) - 1)) (i := i) (by show rd o (i : Int) ≤ _; omega)]
      exact h3
  unfold impl_IsHorizontalStrip.f hStrip
  refine Ev.bind (impl_IsShape_ev o n (by omega) (by omega)) (ev_ite (fun h => ?_) (fun h => ev_val (by rw [Bool.not_eq_true] at h; rw [h]; rfl)))
  rw [h, Bool.true_and]
  by_cases h0 : 1 ≤ o.length
  · exact key (o.length - 1) 1 (by omega) (Nat.le_refl _)
  · exact Ev.step (fun k => by rw [impl_IsHorizontalStrip.l0]) (ev_neg (by omega) (ev_val (all_done (by omega)).symm))
theorem spec_hStrip_ev (ho : isPartition o = true) (hn : isPartition n = true) : Ev (fun k => spec_IsHorizontalStrip.f k o n) (hStrip o n) := by
  have h1 := (isPartition_bd ho).2.1
  have h2 := (isPartition_bd hn).2.1
  have hz : ∀ i : Nat, o.length ≤ i → Ev (fun k => spec_IsHorizontalStrip.l0 k (i : Int) o n) (isInside n o && hCells o n i) := fun i hi =>
    Ev.step (fun k => by rw [spec_IsHorizontalStrip.l0]) (ev_neg (by omega) (Ev.bind (spec_IsShape_ev o n (by omega) (by omega)) (ev_val (by unfold hCells; rw [all_done (by omega), Bool.and_true]))))
  have key : ∀ d i : Nat, i + d = o.length → 1 ≤ i → Ev (fun k => spec_IsHorizontalStrip.l0 k (i : Int) o n) (isInside n o && hCells o n i) := by
    intro d
    induction d with
    | zero => intro i hi _; exact hz i (by omega)
    | succ d ih =>
      intro i hi hi1
      refine Ev.step (fun k => by rw [spec_IsHorizontalStrip.l0]) (ev_pos (by omega) (ev_pos (by omega) ?_))
      rw [wrap_id (i := (i : Int) - 1) (by omega) (by omega)]
      refine ev_bindc (spec_l2At_eq n _) (ev_ite (fun h => ev_val ?_) (fun h => ?_))
      · unfold hCells
        rw [all_fail (by omega) (by omega), Bool.and_false]
      · rw [wrap_succ (by omega)]
        have h3 := ih (i + 1) (by omega) (by omega)
        unfold hCells at h3 ⊢
        rw [all_step (P := fun k : Nat => rd o (k : Int) ≤ at0 n ((k : Int) - 1)) (i := i) (by show rd o (i : Int) ≤ _; omega)]
        exact h3
  unfold spec_IsHorizontalStrip.f hStrip
  by_cases h0 : 1 ≤ o.length
  · exact key (o.length - 1) 1 (by omega) (Nat.le_refl _)
  · exact hz 1 (by omega)
theorem impl_vStrip_ev (ho : isPartition o = true) (hn : isPartition n = true) : Ev (fun k => impl_IsVerticalStrip.f k o n) (vStrip o n) := by
  have h1 := (isPartition_bd ho).2
  have h2 := (isPartition_bd hn).2.1
  have key : ∀ d i : Nat, i + d = o.length → Ev (fun k => impl_IsVerticalStrip.l0 k o (o.length : Int) (i : Int) o n) (vCells o n i) := by
    intro d
    induction d with
    | zero =>
      intro i hi
      exact Ev.step (fun k => by rw [impl_IsVerticalStrip.l0]) (ev_neg (by omega) (ev_val (all_done (by omega)).symm))
    | succ d ih =>
      intro i hi
      have h4 := h1.2 _ (rd_mem o i (by omega))
      have h5 := at0_bd hn (i : Int)
      refine Ev.step (fun k => by rw [impl_IsVerticalStrip.l0]) (ev_pos (by omega) (ev_pos (by omega) (ev_pos (by omega) ?_)))
      refine ev_bindc (impl_at_eq n _ (by omega)) ?_
      rw [wrap_id (i := rd o (i : Int) - at0 n (i : Int)) (by omega) (by omega)]
      refine ev_ite (fun h => ev_val (all_fail (by omega) (by omega)).symm) (fun h => ?_)
      rw [wrap_succ (by omega)]
      have h3 := ih (i + 1) (by omega)
      unfold vCells at h3 ⊢
      rw [all_step (P := fun k : Nat => rd o (k : Int) ≤ at0 n (k : Int) + 1) (i := i) (by show rd o (i : Int) ≤ _; omega)]
      exact h3
  unfold impl_IsVerticalStrip.f vStrip
  refine Ev.bind (impl_IsShape_ev o n (by omega) (by omega)) (ev_ite (fun h => ?_) (fun h => ev_val (by rw [Bool.not_eq_true] at h; rw [h]; rfl)))
  rw [h, Bool.true_and]
  exact key o.length 0 (by omega)
theorem spec_vStrip_ev (ho : isPartition o = true) (hn : isPartition n = true) : Ev (fun k => spec_IsVerticalStrip.f k o n) (vStrip o n) := by
  have h1 := (isPartition_bd ho).2.1
  have h2 := (isPartition_bd hn).2.1
  have key : ∀ d i : Nat, i + d = o.length → Ev (fun k => spec_IsVerticalStrip.l0 k (i : Int) o n) (isInside n o && vCells o n i) := by
    intro d
    induction d with
    | zero =>
      intro i hi
      exact Ev.step (fun k => by rw [spec_IsVerticalStrip.l0]) (ev_neg (by omega) (Ev.bind (spec_IsShape_ev o n (by omega) (by omega)) (ev_val (by unfold vCells; rw [all_done (by omega), Bool.and_true]))))
    | succ d ih =>
      intro i hi
      have h5 := at0_bd hn (i : Int)
      refine Ev.step (fun k => by rw [spec_IsVerticalStrip.l0]) (ev_pos (by omega) (ev_pos (by omega) ?_))
      refine ev_bindc (spec_l2At_eq n _) ?_
      rw [wrap_id (i := at0 n (i : Int) + 1) (by omega) (by omega)]
      refine ev_ite (fun h => ev_val ?_) (fun h => ?_)
      · unfold vCells
        rw [all_fail (by omega) (by omega), Bool.and_false]
      · rw [wrap_succ (by omega)]
        have h3 := ih (i + 1) (by omega)
        unfold vCells at h3 ⊢
        rw [all_step (P := fun k : Nat => rd o (k : Int) ≤ at0 n (k : Int) + 1) (i := i) (by show rd o (i : Int) ≤ _; omega)]
        exact h3
  unfold spec_IsVerticalStrip.f vStrip
  exact key o.length 0 (by omega)
end
end Go.Proofs.Ytaghidcmefbjdaa.Q

set_option linter.unusedVariables false
set_option linter.unusedSimpArgs false
namespace Go.Proofs.Ytaghidcmefbjdaa.Q
open Go.RowKit Go.Proofs.Ytaghidcmefbjdaa.F Go.Proofs.YtaghidcmefbjdaaW.PrintWords Go.Proofs.YtaghidcmefbjdaaW.PrintLast Go.Proofs.YtaghidcmefbjdaaW.PrintMore
theorem isum_ext : ∀ {a b : List Int}, a.length = b.length → (∀ (i : Nat) (h1 : i < a.length) (h2 : i < b.length), a[i] ≤ b[i]) → isum a ≤ isum b ∧ (isum a = isum b → a = b)
  | [], [], _, _ => ⟨Int.le_refl _, fun _ => rfl⟩
  | [], _ :: _, h, _ => by simp at h
  | _ :: _, [], h, _ => by simp at h
  | x :: a, y :: b, h, hi => by
    have h0 := hi 0 (by simp) (by simp)
    obtain ⟨h1, h2⟩ := isum_ext (a := a) (b := b) (by simpa using h) (fun i h1 h2 => by have := hi (i + 1) (by simpa using h1) (by simpa using h2); simpa using this)
    simp only [List.getElem_cons_zero] at h0
    simp only [isum]
    exact ⟨by omega, fun e => by rw [h2 (by omega), show x = y by omega]⟩
theorem isum_take_le' (l : List Int) (h : ∀ x ∈ l, 1 ≤ x) (t : Nat) (ht : t < l.length) : isum (l.take t) + 1 ≤ isum l := by
  have e := isum_append (l.take t) (l.drop t)
  rw [List.take_append_drop] at e
  have h2 : isum (l.drop t) ≥ 1 := by
    rw [List.drop_eq_getElem_cons ht]
    have h3 := h _ (List.getElem_mem ht)
    have h4 := isum_ge (l := l.drop (t + 1)) (fun x hx => h x (List.mem_of_mem_drop hx))
    simp only [isum]
    omega
  omega
theorem inside_same {n o : List Int} (h : isInside n o = true) (hs : isum n = isum o) : n = o := by
  obtain ⟨hn, ho, hl, hr⟩ := isInside_len h
  have hpos := fun x hx => ((isPartition_bd ho).2.2 x hx).1
  have hle : ∀ (i : Nat) (h1 : i < n.length) (h2 : i < (o.take n.length).length), n[i] ≤ (o.take n.length)[i] := fun i h1 h2 => by
    have := hr i h1
    rw [rd_eq _ i h1, rd_eq _ i (by omega)] at this
    rw [List.getElem_take]; exact this
  obtain ⟨h3, h4⟩ := isum_ext (by rw [List.length_take]; omega) hle
  by_cases e : n.length = o.length
  · rw [e, List.take_length] at h4
    exact h4 hs
  · have := isum_take_le' o hpos n.length (by omega)
    omega
theorem inside_refl {p : List Int} (h : isPartition p = true) : isInside p p = true := by
  unfold isInside
  rw [h]
  simp only [Bool.and_self, Bool.true_and]
  exact (inside_all p p 0).2 (fun j hj => by rw [at0_nat _ _ hj]; exact Int.le_refl _)
theorem hStrip_same {q p : List Int} (hq : isPartition q = true) (hp : isPartition p = true) (hs : isum q = isum p) : hStrip q p = hStrip p q := by
  by_cases e : q = p
  · rw [e]
  · have h1 : isInside p q = false := Bool.eq_false_iff.2 (fun h => e (inside_same h hs.symm).symm)
    have h2 : isInside q p = false := Bool.eq_false_iff.2 (fun h => e (inside_same h hs))
    unfold hStrip
    rw [h1, h2]
    rfl
end Go.Proofs.Ytaghidcmefbjdaa.Q

set_option linter.unusedVariables false
set_option linter.unusedSimpArgs false
namespace Go.Proofs.Ytaghidcmefbjdaa.Q
open Go.RowKit Go.Proofs.Ytaghidcmefbjdaa.F Go.Proofs.YtaghidcmefbjdaaW.PrintWords Go.Proofs.YtaghidcmefbjdaaW.PrintLast Go.Proofs.YtaghidcmefbjdaaW.PrintMore
/-- a row with new cells -/
def fil (o n : List Int) (k : Nat) : Bool := decide (at0 n (k : Int) < rd o (k : Int))
/-- the rows with new cells, d rows from row a on -/
def filF (o n : List Int) : Nat → Nat → List Nat
  | 0, _ => []
  | d + 1, a => if fil o n a = true then a :: filF o n d (a + 1) else filF o n d (a + 1)
/-- each row begins where the one above ends -/
def linked (o n : List Int) : List Nat → Bool
  | a :: b :: l => decide (a + 1 = b ∧ rd o (b : Int) = at0 n (a : Int) + 1) && linked o n (b :: l)
  | _ => true
def isRib (o n : List Int) : Bool := isInside n o && (!(filF o n o.length 0).isEmpty && linked o n (filF o n o.length 0))
section
variable {o n : List Int}
theorem filF_mem : ∀ {d a k : Nat}, k ∈ filF o n d a ↔ a ≤ k ∧ k < a + d ∧ fil o n k = true
  | 0, a, k => by simp [filF]; omega
  | d + 1, a, k => by
    simp only [filF]
    by_cases h : fil o n a = true
    · rw [if_pos h, List.mem_cons, filF_mem]
      constructor
      · rintro (rfl | ⟨h1, h2, h3⟩)
        · exact ⟨Nat.le_refl _, by omega, h⟩
        · exact ⟨by omega, by omega, h3⟩
      · rintro ⟨h1, h2, h3⟩
        by_cases e : k = a
        · exact .inl e
        · exact .inr ⟨by omega, by omega, h3⟩
    · rw [if_neg h, filF_mem]
      constructor
      · rintro ⟨h1, h2, h3⟩; exact ⟨by omega, by omega, h3⟩
      · rintro ⟨h1, h2, h3⟩
        by_cases e : k = a
        · subst e; exact absurd h3 h
        · exact ⟨by omega, by omega, h3⟩
theorem filF_len : ∀ (d a : Nat), (filF o n d a).length ≤ d
  | 0, a => by simp [filF]
  | d + 1, a => by
    have := filF_len d (a + 1)
    simp only [filF]
    split
    · simp; omega
    · omega
theorem filF_nil (ho : isPartition o = true) (hi : isInside n o = true) : filF o n o.length 0 = [] ↔ isum o - isum n < 1 := by
  obtain ⟨hn, _, hl, hr⟩ := isInside_len hi
  have hpos := fun x hx => ((isPartition_bd ho).2.2 x hx).1
  have hle : ∀ (i : Nat) (h1 : i < n.length) (h2 : i < (o.take n.length).length), n[i] ≤ (o.take n.length)[i] := fun i h1 h2 => by
    have := hr i h1
    rw [rd_eq _ i h1, rd_eq _ i (by omega)] at this
    rw [List.getElem_take]; exact this
  have h3 := (isum_ext (by rw [List.length_take]; omega) hle).1
  have h4 : isum (o.take n.length) ≤ isum o := by
    by_cases e : n.length < o.length
    · have := isum_take_le' o hpos n.length e; omega
    · rw [List.take_of_length_le (by omega)]; exact Int.le_refl _
  constructor
  · intro h
    have e : n = o := by
      have hll : n.length = o.length := by
        rcases Nat.lt_or_ge n.length o.length with hlt | hge
        · exfalso
          have : n.length ∈ filF o n o.length 0 := filF_mem.2 ⟨Nat.zero_le _, by omega, by
            unfold fil
            rw [at0_out _ _ (by omega)]
            have := hpos _ (rd_mem o n.length hlt)
            exact decide_eq_true (by omega)⟩
          rw [h] at this
          simp at this
        · omega
      refine List.ext_getElem hll fun i h1 h2 => ?_
      have h5 := hr i h1
      have h6 : ¬ fil o n i = true := fun hf => by
        have : i ∈ filF o n o.length 0 := filF_mem.2 ⟨Nat.zero_le _, by omega, hf⟩
        rw [h] at this
        simp at this
      unfold fil at h6
      rw [at0_nat _ i h1] at h6
      simp only [decide_eq_true_eq] at h6
      rw [← rd_eq _ i h1, ← rd_eq _ i h2]
      omega
    rw [e]; omega
  · intro h
    have e : n = o := inside_same hi (by omega)
    subst e
    rw [List.eq_nil_iff_forall_not_mem]
    intro k hk
    obtain ⟨_, h2, h5⟩ := filF_mem.1 hk
    unfold fil at h5
    rw [at0_nat _ k (by omega)] at h5
    simp at h5
theorem filled_ev (ho : o.length ≤ 9) (hn : n.length ≤ 9) : Ev (fun k => impl_filledRows.f k o n) ((filF o n o.length 0).map (fun (j : Nat) => (j : Int))) := by
  have key : ∀ (d a : Nat) (acc : List Int), a + d = o.length → acc.length ≤ a → Ev (fun k => impl_filledRows.l0 k acc o (o.length : Int) (a : Int) o n) (acc ++ (filF o n d a).map (fun (j : Nat) => (j : Int))) := by
    intro d
    induction d with
    | zero =>
      intro a acc ha _
      exact Ev.step (fun k => by rw [impl_filledRows.l0]) (ev_neg (by omega) (ev_val (by simp [filF])))
    | succ d ih =>
      intro a acc ha hac
      refine Ev.step (fun k => by rw [impl_filledRows.l0]) (ev_pos (by omega) (ev_pos (by omega) (ev_pos (by omega) (ev_bindc (impl_at_eq n _ (by omega)) ?_))))
      rw [wrap_succ (by omega)]
      simp only [filF]
      by_cases h : at0 n (a : Int) < rd o (a : Int)
      · refine ev_pos (by omega) (ev_pos (by omega) ?_)
        rw [if_pos (by unfold fil; exact decide_eq_true h)]
        have := ih (a + 1) (acc ++ [(a : Int)]) (by omega) (by rw [List.length_append]; simp; omega)
        simpa using this
      · refine ev_neg (by omega) ?_
        rw [if_neg (by unfold fil; simpa using h)]
        exact ih (a + 1) acc (by omega) (by omega)
  unfold impl_filledRows.f
  have := key o.length 0 [] (by omega) (by simp)
  simpa using this
theorem linked_ev (ho : isPartition o = true) (hn : n.length ≤ 9) (hn9 : ∀ i : Int, 0 ≤ at0 n i ∧ at0 n i ≤ 9) (F : List Nat) (hF : ∀ k ∈ F, k < o.length) (hl : F.length ≤ 9) : ∀ d j : Nat, j + d + 1 = F.length → Ev (fun k => impl_IsRibbon.l0 k (F.map (fun (j : Nat) => (j : Int))) ((j : Int) + 1) o n) (linked o n (F.drop j)) := by
  have ho9 := (isPartition_bd ho).2
  intro d
  induction d with
  | zero =>
    intro j hj
    refine Ev.step (fun k => by rw [impl_IsRibbon.l0]) (ev_neg (by rw [List.length_map]; omega) (ev_val ?_))
    rw [List.drop_eq_getElem_cons (by omega), List.drop_of_length_le (by omega)]
    rfl
  | succ d ih =>
    intro j hj
    have hj1 : j < F.length := by omega
    have hj2 : j + 1 < F.length := by omega
    have e1 : F.drop j = F[j] :: F[j + 1] :: F.drop (j + 2) := by rw [List.drop_eq_getElem_cons hj1, List.drop_eq_getElem_cons hj2]
    have e2 : F.drop (j + 1) = F[j + 1] :: F.drop (j + 2) := List.drop_eq_getElem_cons hj2
    have hb := hF _ (List.getElem_mem hj2)
    have r1 : rd (F.map (fun (j : Nat) => (j : Int))) ((j : Int) + 1) = (F[j + 1] : Int) := by
      have := rd_eq (F.map (fun (j : Nat) => (j : Int))) (j + 1) (by rw [List.length_map]; exact hj2)
      rw [Int.natCast_add, Int.natCast_one] at this
      rw [this]; simp
    have r2 : rd (F.map (fun (j : Nat) => (j : Int))) (j : Int) = (F[j] : Int) := by rw [rd_eq _ j (by rw [List.length_map]; exact hj1)]; simp
    have ih2 := ih (j + 1) (by omega)
    rw [e2] at ih2
    rw [e1]
    obtain ⟨a, ha⟩ : ∃ a, F[j] = a := ⟨_, rfl⟩
    obtain ⟨b, hbb⟩ : ∃ b, F[j + 1] = b := ⟨_, rfl⟩
    rw [ha] at r2 ⊢
    rw [hbb] at r1 hb ih2 ⊢
    refine Ev.step (fun k => by rw [impl_IsRibbon.l0]) (ev_pos (by rw [List.length_map]; omega) (ev_pos (by omega) ?_))
    have w1 : wrap64 ((j : Int) + 1 - 1) = (j : Int) := by rw [wrap_id (by omega) (by omega)]; omega
    rw [w1, r1, r2]
    refine ev_pos (by omega) (ev_pos (by rw [List.length_map]; omega) ?_)
    rw [wrap_id (i := (b : Int) - 1) (by omega) (by omega)]
    refine ev_ite (fun h => ?_) (fun h => ev_val ?_)
    · refine ev_pos (by omega) (ev_pos (by omega) (ev_bindc (impl_at_eq n _ (by omega)) ?_))
      have h9 := hn9 ((b : Int) - 1)
      rw [wrap_id (i := at0 n ((b : Int) - 1) + 1) (by omega) (by omega)]
      refine ev_ite (fun h2 => ?_) (fun h2 => ev_val ?_)
      · rw [wrap_id (i := (j : Int) + 1 + 1) (by omega) (by omega)]
        have e5 : linked o n (a :: b :: F.drop (j + 2)) = linked o n (b :: F.drop (j + 2)) := by
          rw [linked, decide_eq_true ⟨by omega, by rw [h]; exact h2⟩, Bool.true_and]
        rw [e5]
        rw [Int.natCast_add, Int.natCast_one] at ih2
        exact ih2
      · rw [linked, decide_eq_false (fun e => h2 (by rw [← h]; exact e.2)), Bool.false_and]
    · rw [linked, decide_eq_false (fun e => h (by omega)), Bool.false_and]
theorem impl_isRib_ev (ho : isPartition o = true) (hn : isPartition n = true) : Ev (fun k => impl_IsRibbon.f k o n) (isRib o n) := by
  have h1 := (isPartition_bd ho).2
  have h2 := (isPartition_bd hn).2
  have s1 := (isPartition_bd ho).1
  have s2 := (isPartition_bd hn).1
  have s3 := isum_ge (l := o) (fun x hx => (h1.2 x hx).1)
  have s4 := isum_ge (l := n) (fun x hx => (h2.2 x hx).1)
  unfold impl_IsRibbon.f isRib
  by_cases hi : isInside n o = true
  · have hC : Ev (fun k => impl_CellCount.f k o n) (isum o - isum n) := by
      unfold impl_CellCount.f
      exact Ev.bind (impl_IsShape_ev o n (by omega) (by omega)) (ev_pos hi (Ev.bind (impl_sum_ev o (by omega) (fun x hx => by have := h1.2 x hx; omega)) (Ev.bind (impl_sum_ev n (by omega) (fun x hx => by have := h2.2 x hx; omega)) (ev_val (wrap_id (by omega) (by omega))))))
    refine Ev.bind hC ?_
    · rw [hi, Bool.true_and]
      refine ev_ite (fun h => ev_val ?_) (fun h => Ev.bind (filled_ev h1.1 h2.1) ?_)
      · rw [(filF_nil ho hi).2 h]; rfl
      · have hne : filF o n o.length 0 ≠ [] := fun e => h ((filF_nil ho hi).1 e)
        have hlen := List.length_pos_iff.2 hne
        have hfl := filF_len (o := o) (n := n) o.length 0
        have h5 := linked_ev ho h2.1 (at0_bd hn) (filF o n o.length 0) (fun k hk => by have := filF_mem.1 hk; omega) (by omega) ((filF o n o.length 0).length - 1) 0 (by omega)
        rw [List.drop_zero] at h5
        have h6 : (filF o n o.length 0).isEmpty = false := by rw [List.isEmpty_eq_false_iff]; exact hne
        rw [h6, Bool.not_false, Bool.true_and]
        exact h5
  · rw [Bool.not_eq_true] at hi
    have hC : Ev (fun k => impl_CellCount.f k o n) (-1) := by
      unfold impl_CellCount.f
      exact Ev.bind (impl_IsShape_ev o n (by omega) (by omega)) (ev_neg (by rw [hi]; simp) (ev_val rfl))
    exact Ev.bind hC (ev_pos (by omega) (ev_val (by rw [hi]; rfl)))
theorem spec_isRib_ev (ho : isPartition o = true) (hn : isPartition n = true) : Ev (fun k => spec_IsRibbon.f k o n) (isRib o n) := by
  have h1 := (isPartition_bd ho).2
  have h2 := (isPartition_bd hn).2
  have rows : ∀ (d a : Nat) (f t : Int), a + d = o.length → Ev (fun k => spec_l4Rows.l0 k f t (a : Int) o n) (if f < 0 then (((filF o n d a).head?.map (fun (j : Nat) => (j : Int))).getD f) else f, ((filF o n d a).getLast?.map (fun (j : Nat) => (j : Int))).getD t) := by
    intro d
    induction d with
    | zero =>
      intro a f t ha
      exact Ev.step (fun k => by rw [spec_l4Rows.l0]) (ev_neg (by omega) (ev_val (by simp [filF])))
    | succ d ih =>
      intro a f t ha
      refine Ev.step (fun k => by rw [spec_l4Rows.l0]) (ev_pos (by omega) (ev_pos (by omega) (ev_bindc (spec_l2At_eq n _) ?_)))
      rw [wrap_succ (by omega)]
      by_cases h : at0 n (a : Int) < rd o (a : Int)
      · have e0 : filF o n (d + 1) a = a :: filF o n d (a + 1) := by simp only [filF]; exact if_pos (by unfold fil; exact decide_eq_true h)
        rw [e0]
        have el : ∀ t0 : Int, (((a :: filF o n d (a + 1)).getLast?.map (fun (j : Nat) => (j : Int))).getD t0) = (((filF o n d (a + 1)).getLast?.map (fun (j : Nat) => (j : Int))).getD (a : Int)) := fun t0 => by
          cases e : filF o n d (a + 1) with
          | nil => simp
          | cons x l =>
            rw [List.getLast?_cons_cons]
            cases e2 : (x :: l).getLast? with
            | none => simp at e2
            | some y => rfl
        refine ev_pos (by omega) (ev_ite (fun hf => ?_) (fun hf => ?_))
        · refine ev_eq (ih (a + 1) (a : Int) (a : Int) (by omega)) ?_
          rw [if_neg (by omega), if_pos hf, el]; simp
        · refine ev_eq (ih (a + 1) f (a : Int) (by omega)) ?_
          rw [if_neg hf, if_neg hf, el]
      · have e0 : filF o n (d + 1) a = filF o n d (a + 1) := by simp only [filF]; exact if_neg (by unfold fil; simpa using h)
        rw [e0]
        exact ev_neg (by omega) (ih (a + 1) f t (by omega))
  have loop : ∀ (d a : Nat) (t : Nat), a + 1 + d = o.length → fil o n a = true → (filF o n d (a + 1)).getLast?.getD a = t → Ev (fun k => spec_IsRibbon.l0 k (t : Int) ((a : Int) + 1) o n) (linked o n (a :: filF o n d (a + 1))) := by
    intro d
    induction d with
    | zero =>
      intro a t ha hf ht
      simp only [filF, List.getLast?_nil, Option.getD_none] at ht ⊢
      subst ht
      rw [show linked o n [a] = true from by simp [linked]]
      exact Ev.step (fun k => by rw [spec_IsRibbon.l0]) (ev_neg (by omega) (ev_val rfl))
    | succ d ih =>
      intro a t ha hf ht
      have h9 := at0_bd hn (a : Int)
      cases e : filF o n (d + 1) (a + 1) with
      | nil =>
        rw [e] at ht
        simp only [List.getLast?_nil, Option.getD_none] at ht
        subst ht
        rw [show linked o n [a] = true from by simp [linked]]
        exact Ev.step (fun k => by rw [spec_IsRibbon.l0]) (ev_neg (by omega) (ev_val rfl))
      | cons b l =>
        have hta : a + 1 ≤ t := by
          rw [e] at ht
          have hm : t ∈ filF o n (d + 1) (a + 1) := by
            rw [e, ← ht]
            cases e2 : (b :: l).getLast? with
            | none => simp at e2
            | some y => rw [Option.getD_some]; exact List.mem_of_getLast? e2
          exact (filF_mem.1 hm).1
        refine Ev.step (fun k => by rw [spec_IsRibbon.l0]) (ev_pos (by omega) (ev_pos (by omega) (ev_pos (by omega) (ev_bindc (spec_l2At_eq n _) ?_))))
        have ea : ((a : Int) + 1) = ((a + 1 : Nat) : Int) := by omega
        simp only [filF] at e
        by_cases h : fil o n (a + 1) = true
        · rw [if_pos h] at e
          injection e with e1 e2
          subst e1 e2
          have h' : at0 n ((a + 1 : Nat) : Int) < rd o ((a + 1 : Nat) : Int) := by unfold fil at h; simpa using h
          rw [ea]
          refine ev_neg (by omega) (ev_bindc (spec_l2At_eq n _) ?_)
          have ew : wrap64 (((a + 1 : Nat) : Int) - 1) = (a : Int) := by rw [wrap_id (by omega) (by omega)]; omega
          rw [ew, wrap_id (i := at0 n (a : Int) + 1) (by omega) (by omega)]
          refine ev_ite (fun h2 => ?_) (fun h2 => ev_val ?_)
          · rw [wrap_id (i := ((a + 1 : Nat) : Int) + 1) (by omega) (by omega), linked, decide_eq_true ⟨rfl, h2⟩, Bool.true_and]
            refine ih (a + 1) t (by omega) h ?_
            rw [← ht]
            simp only [filF]
            rw [if_pos h]
            cases e4 : filF o n d (a + 1 + 1) with
            | nil => rfl
            | cons x l =>
              rw [List.getLast?_cons_cons]
              cases e5 : (x :: l).getLast? with
              | none => simp at e5
              | some y => rfl
          · rw [linked, decide_eq_false (fun e => h2 e.2), Bool.false_and]
        · rw [if_neg h] at e
          have h' : ¬ at0 n ((a + 1 : Nat) : Int) < rd o ((a + 1 : Nat) : Int) := by unfold fil at h; simpa using h
          rw [ea]
          refine ev_pos (by omega) (ev_val ?_)
          have hb : b ∈ filF o n d (a + 1 + 1) := by rw [e]; simp
          have := (filF_mem.1 hb).1
          rw [linked, decide_eq_false (fun e => by omega), Bool.false_and]
  unfold spec_IsRibbon.f isRib
  have hr := rows o.length 0 (-1) (-1) (by omega)
  rw [if_pos (by omega)] at hr
  refine Ev.bind (show Ev (fun k => spec_l4Rows.f k o n) _ from hr) (Ev.bind (spec_IsShape_ev o n (by omega) (by omega)) (ev_ite (fun hi => ?_) (fun hi => ?_)))
  · rw [hi, Bool.true_and]
    cases e : filF o n o.length 0 with
    | nil =>
      rw [show (!(([] : List Nat)).isEmpty && linked o n []) = false from rfl]
      refine Ev.step (fun k => by rw [spec_IsRibbon.j0]) ?_
      exact ev_pos (by simp) (ev_val rfl)
    | cons a l =>
      have hm := filF_mem.1 (show a ∈ filF o n o.length 0 by rw [e]; simp)
      refine Ev.step (fun k => by rw [spec_IsRibbon.j0]) ?_
      refine ev_neg (by simp; exact decide_eq_false (by omega)) ?_
      have hsuf : ∀ (d q : Nat), q + d = o.length → filF o n d q = a :: l → l = filF o n (o.length - (a + 1)) (a + 1) := by
        intro d
        induction d with
        | zero => intro q _ h; simp [filF] at h
        | succ d ih =>
          intro q hq h
          simp only [filF] at h
          by_cases hf : fil o n q = true
          · rw [if_pos hf] at h
            injection h with h3 h4
            subst h3
            rw [← h4]
            congr 1
            omega
          · rw [if_neg hf] at h
            exact ih (q + 1) (by omega) h
      have hl := hsuf o.length 0 (by omega) e
      have h5 := loop (o.length - (a + 1)) a ((filF o n (o.length - (a + 1)) (a + 1)).getLast?.getD a) (by omega) hm.2.2 rfl
      rw [← hl] at h5
      have e6 : (((a :: l).getLast?.map (fun (j : Nat) => (j : Int))).getD (-1)) = ((l.getLast?.getD a : Nat) : Int) := by
        cases l with
        | nil => rfl
        | cons x l =>
          rw [List.getLast?_cons_cons]
          cases e7 : (x :: l).getLast? with
          | none => simp at e7
          | some y => rfl
      rw [e6]
      simp only [List.head?_cons, Option.map_some, Option.getD_some]
      rw [wrap_succ (by omega)]
      simp only [List.isEmpty_cons, Bool.not_false, Bool.true_and]
      rw [Int.natCast_add, Int.natCast_one]
      exact h5
  · rw [Bool.not_eq_true] at hi
    exact Ev.step (fun k => by rw [spec_IsRibbon.j0]) (ev_pos rfl (ev_val (by rw [hi]; rfl)))
end
end Go.Proofs.Ytaghidcmefbjdaa.Q

set_option linter.unusedVariables false
set_option linter.unusedSimpArgs false
namespace Go.Proofs.Ytaghidcmefbjdaa.Q
open Go.RowKit Go.Proofs.Ytaghidcmefbjdaa.F Go.Proofs.YtaghidcmefbjdaaW.PrintWords Go.Proofs.YtaghidcmefbjdaaW.PrintLast Go.Proofs.YtaghidcmefbjdaaW.PrintMore
section
variable {w W : World} {L : List Ob} {v0 v1 : Value} {o n : List Int}
theorem spec_IsRibbonPickRUp_st {b : Bool} (h : St w W L) (h0 : Reads (Kd.int .i64) W v0 o) (h1 : Reads (Kd.int .i64) W v1 n) (ho : isPartition o = true) (hn : isPartition n = true) (hb : isRib o n = b) :
    Calls Try.prog 56 #[.agg #[v0, v1]] W fun e W' => e = .returned (.bool b) ∧ St w W' L := by
  obtain ⟨A0, c0, rfl, hc0, hC0⟩ := h0
  obtain ⟨A1, c1, rfl, hc1, hC1⟩ := h1
  obtain ⟨K, hK⟩ := ev_eq (spec_isRib_ev ho hn) hb
  refine (spec_IsRibbon.calls K A0 c0 o A1 c1 n b W hC0 hc0 hC1 hc1 (hK K (Nat.le_refl _))).mono ?_
  rintro e W' ⟨rfl, hB⟩
  exact ⟨rfl, h.quiet hB⟩
end
set_option maxHeartbeats 16000000 in
set_option maxRecDepth 100000 in
theorem PickRUp_calls (A : Option Addr) (c : Nat) (p : List Int) (w : World) (hr : Kd.C (Kd.int .i64) w A p.length p) (hc : p.length ≤ c) (hp : isPartition p = true) (n : Nat) (hn : n ≤ 9) (hnp : isum p ≤ (n : Int)) :
    Calls Try.prog 40 #[.slice A p.length c, .int .i64 (n : Int), .int .i64 2] w fun e w' => ∃ v, e = .returned v ∧ Kd.S (Kd.slice 3 (Kd.int .i64)) 22 w' w.heap.size (fun _ => True) v ((partsOf n).filter (fun q => isRib q p)) ∧ Below w.heap.size w w' := by
  have C0 := Aside0.mk hr
  have H0 := Aside0.mk (St.start w)
  have HPP := Aside0.mk hp
  have hp9 := (isPartition_bd hp).2.1
  obtain ⟨s, hs⟩ : ∃ s, isum p = s := ⟨_, rfl⟩
  rw [hs] at hnp
  have HS_ := Aside0.mk hs
  have hlt_ : decide ((n : Int) < s) = false := decide_eq_false (by omega)
  have hXl := partsOf_len hn
  have hpos := partsOf_pos hn
  have HM := Aside0.mk (fun p (hp : p ∈ partsOf n) => ((partsOf_mem hn).1 hp).1)
  obtain ⟨X, hX⟩ : ∃ X, partsOf n = X := ⟨_, rfl⟩
  rw [hX] at hXl hpos HM
  have HX := Aside0.mk hX
  obtain ⟨R, hR⟩ : ∃ R, R = (partsOf n).filter (fun q => isRib q p) := ⟨_, rfl⟩
  rw [← hR]
  rw [hX] at hR
  have HR := Aside0.mk hR
  clear hX hr hp hs hR hnp
  go_enter Try.func40, Try.ntmps40
  go_wp2_with (first
    | ((with_reducible refine gate_dst (N := 11) rfl ?_); refine St.lit0 (Kd.slice 3 (Kd.int .i64)) 22 (N := 11) rfl rfl ?hr H0.out ?_; (case hr => first | (go_simp; done) | (go_simp; rfl)); intro v1 w1 ok1 h_; have H1 := Aside0.mk h_; clear h_)
    | (go_at_call 50; (with_reducible refine (specParts_st H1.out hn).mono ?_); rintro e w2 ⟨v2, ok2, rfl, h_⟩; rw [HX.out] at h_; have H2 := Aside0.mk h_; clear h_; obtain ⟨g2, c2, cur2, f2, rfl, h_⟩ := St.openT H2.out 0 rfl hpos; have H3 := Aside0.mk h_; clear h_ H2))
  go_loopg [7, 9] X.length (fun kq v7 v9 wr => ∃ (i : Nat) (ok okp : Nat → Prop), i ≤ X.length ∧ X.length - i ≤ kq ∧ v9 = .int .i64 (i : Int) ∧ Aside0 (St w wr [obT 22 w ok g2 cur2 f2 i X, obS (Kd.slice 3 (Kd.int .i64)) 22 w okp v7 ((X.take i).filter (fun q => isRib q p))]))
  case atStart => exact ⟨0, ok2, ok1, Nat.zero_le _, by omega, rfl, ⟨by rw [List.take_zero]; exact H3.out⟩⟩
  case round =>
    clear H0 H1 H3
    obtain ⟨i, ok, okp, hi, hg, rfl, HS⟩ := hrel
    by_cases hlt : i < X.length
    · have hltz : (i : Int) < (X.length : Int) := by omega
      have hi0 : (0 : Int) ≤ (i : Int) := by omega
      obtain ⟨Ar, cr, hcur, hcr⟩ := St.rowT HS.out 0 rfl i (Nat.le_refl _) hlt
      have hft := filter_take (fun q => isRib q p) X i hlt
      have hrp := HM.out _ (List.getElem_mem hlt)
      obtain ⟨row, hrw⟩ : ∃ r, X[i] = r := ⟨_, rfl⟩
      rw [hrw] at hcur hcr hft hrp
      have HRW := Aside0.mk hrw
      have HCU := Aside0.mk hcur
      have HRP := Aside0.mk hrp
      have HLL := Aside0.mk (show ((X.take i).filter (fun q => isRib q p)).length ≤ 387420489 by
        have := List.length_filter_le (fun q => isRib q p) (X.take i)
        rw [List.length_take] at this
        omega)
      obtain ⟨ACC, hACC⟩ : ∃ A, A = (X.take i).filter (fun q => isRib q p) := ⟨_, rfl⟩
      rw [← hACC] at hft HLL HS
      have HFT := Aside0.mk hft
      have HD := Aside0.mk (HS.out.quiet (below_drew (Below.refl _ _)))
      clear hrw hcur hACC hcr hft hrp
      go_upto_region 6 with fail
      go_cut [10] (fun s10 wx => ∃ (b : Nat) (A9 : Option Addr) (c9 : Nat) (ok9 : Nat → Prop), s10 = .pointer (some ⟨b, 0, none⟩) ∧ St w wx [obB b #[.slice Ar row.length cr, .slice A9 p.length c9] 46, obR (Kd.int .i64) 3 w ok9 (.slice A9 p.length c9) p, obT 22 w ok g2 cur2 f2 i X, obS (Kd.slice 3 (Kd.int .i64)) 22 w okp u7 ACC])
      case first =>
        go_region_held3 (fun W => W.cell? ⟨g2, i, none⟩ = some (.slice Ar row.length cr)) (first
          | exact St.cellT HD.out 0 rfl HCU.out
          | exact St.cellT (St.boxE HD.out #[.slice none 0 0, .slice none 0 0] 46 (b := wr.heap.size) rfl) 1 rfl HCU.out
          | exact St.cellT (St.nilAtE HD.out (b := wr.heap.size) rfl) 1 rfl HCU.out
          | exact St.cellT (St.nilAtE (St.boxE HD.out #[.slice none 0 0, .slice none 0 0] 46 (b := wr.heap.size) rfl) (b := wr.heap.size + 1) (by rw [World.size_alloc]; rfl)) 2 rfl HCU.out
          | exact St.cellT (St.boxE (St.nilAtE HD.out (b := wr.heap.size) rfl) #[.slice none 0 0, .slice none 0 0] 46 (b := wr.heap.size + 1) (by rw [World.size_alloc]; rfl)) 2 rfl HCU.out
          | exact St.cellT H9.out 1 rfl HCU.out
          | exact St.cellT HX9.out 2 rfl HCU.out
          | exact St.cellT HB9.out 2 rfl HCU.out
          | exact St.cellT HC9.out 2 rfl HCU.out
          | exact St.cellT (St.box H9.out _ _) 2 rfl HCU.out
          | exact St.cellT (St.putB (St.putB HX9.out 0 rfl 0 (.slice Ar row.length cr) rfl) 0 rfl 1 (.slice A9 p.length c9) rfl) 2 rfl HCU.out
          | exact St.cellT (St.putB (St.putB HB9.out 0 rfl 0 (.slice Ar row.length cr) rfl) 0 rfl 1 (.slice A9 p.length c9) rfl) 2 rfl HCU.out
          | exact St.cellT (St.putB (St.putB HC9.out 1 rfl 0 (.slice Ar row.length cr) rfl) 1 rfl 1 (.slice A9 p.length c9) rfl) 2 rfl HCU.out)
          (first
          | (refine St.putInts_step (by rfl) (.tmp 24) (.tmp 25) (by rfl) (St.nilAtE (St.boxE HD.out #[.slice none 0 0, .slice none 0 0] 46 (b := wr.heap.size) rfl) (b := wr.heap.size + 1) (by rw [World.size_alloc]; rfl)) 0 rfl (by rfl) (by rfl) (Reads.C (St.came (St.nilAtE (St.boxE HD.out #[.slice none 0 0, .slice none 0 0] 46 (b := wr.heap.size) rfl) (b := wr.heap.size + 1) (by rw [World.size_alloc]; rfl)) C0.out hc)).2 (by simp only [List.length_nil]; omega) ?_; intro v9 w9 ok9 h_; have HC9 := Aside0.mk h_; clear h_; obtain ⟨A9, c9, rfl, _, _⟩ := HC9.out.readR 0 rfl; have zb_0 := St.cellB HC9.out 1 rfl 0 rfl; have zb_1 := St.cellB HC9.out 1 rfl 1 rfl; have fb_0 := blk_frozen (St.heapB HC9.out 1 rfl) 0; have fb_1 := blk_frozen (St.heapB HC9.out 1 rfl) 1)
          | (refine St.putInts_step (by rfl) (.tmp 24) (.tmp 25) (by rfl) (St.boxE (St.nilAtE HD.out (b := wr.heap.size) rfl) #[.slice none 0 0, .slice none 0 0] 46 (b := wr.heap.size + 1) (by rw [World.size_alloc]; rfl)) 1 rfl (by rfl) (by rfl) (Reads.C (St.came (St.boxE (St.nilAtE HD.out (b := wr.heap.size) rfl) #[.slice none 0 0, .slice none 0 0] 46 (b := wr.heap.size + 1) (by rw [World.size_alloc]; rfl)) C0.out hc)).2 (by simp only [List.length_nil]; omega) ?_; intro v9 w9 ok9 h_; have HB9 := Aside0.mk h_; clear h_; obtain ⟨A9, c9, rfl, _, _⟩ := HB9.out.readR 1 rfl; have zb_0 := St.cellB HB9.out 0 rfl 0 rfl; have zb_1 := St.cellB HB9.out 0 rfl 1 rfl; have fb_0 := blk_frozen (St.heapB HB9.out 0 rfl) 0; have fb_1 := blk_frozen (St.heapB HB9.out 0 rfl) 1)
          | (refine St.putInts_step (by rfl) (.tmp 24) (.tmp 25) (by rfl) (St.nilAtE HD.out (b := wr.heap.size) rfl) 0 rfl (by rfl) (by rfl) (Reads.C (St.came (St.nilAtE HD.out (b := wr.heap.size) rfl) C0.out hc)).2 (by simp only [List.length_nil]; omega) ?_; intro v9 w9 ok9 h_; have H9 := Aside0.mk h_; clear h_; obtain ⟨A9, c9, rfl, _, _⟩ := H9.out.readR 0 rfl; have HX9 := Aside0.mk (St.box H9.out #[.slice none 0 0, .slice none 0 0] 46); have zb_0 := St.cellB HX9.out 0 rfl 0 rfl; have zb_1 := St.cellB HX9.out 0 rfl 1 rfl; have fb_0 := blk_frozen (St.heapB HX9.out 0 rfl) 0; have fb_1 := blk_frozen (St.heapB HX9.out 0 rfl) 1))
        all_goals (go_wp2_with fail; go_meet; first
          | exact ⟨_, _, _, _, rfl, (St.putB (St.putB HB9.out 0 rfl 0 (.slice Ar row.length cr) rfl) 0 rfl 1 (.slice A9 p.length c9) rfl)⟩
          | exact ⟨_, _, _, _, rfl, St.box H9.out #[.slice Ar row.length cr, .slice A9 p.length c9] 46⟩
          | exact ⟨_, _, _, _, rfl, (St.putB (St.putB HX9.out 0 rfl 0 (.slice Ar row.length cr) rfl) 0 rfl 1 (.slice A9 p.length c9) rfl)⟩
          | exact ⟨_, _, _, _, rfl, St.perm_ (St.putB (St.putB HC9.out 1 rfl 0 (.slice Ar row.length cr) rfl) 1 rfl 1 (.slice A9 p.length c9) rfl) (List.Perm.swap _ _ _)⟩)
      obtain ⟨b, A9, c9, ok9, rfl, HF⟩ := hcut
      have HF0 := Aside0.mk HF
      clear HF HS HD
      cases hq : isRib row p with
      | true =>
        have HQ := Aside0.mk hq
        have E2 : Aside0 ((X.take (i + 1)).filter (fun q => isRib q p) = ACC ++ [row]) := ⟨by rw [HFT.out]; simp only [hq]; rfl⟩
        clear hq
        go_wp2_with (first
          | (go_at_call 39; (with_reducible refine (l2Size_st HF0.out (HF0.out.came C0.out hc) HPP.out HS_.out).mono ?_); rintro e w3 ⟨rfl, h_⟩; have H4 := Aside0.mk h_; clear h_; have zb_0 : w3.cell? ⟨b, 0, none⟩ = some (.slice Ar row.length cr) := St.cellB H4.out 0 rfl 0 rfl; have zb_1 : w3.cell? ⟨b, 1, none⟩ = some (.slice A9 p.length c9) := St.cellB H4.out 0 rfl 1 rfl)
          | (go_at_call 56; (with_reducible refine (spec_IsRibbonPickRUp_st H4.out (St.readT H4.out 2 rfl (Nat.le_refl i) hlt HRW.out HCU.out) (H4.out.readR 1 rfl) HRP.out HPP.out HQ.out).mono ?_); rintro e w5 ⟨rfl, h_⟩; have H5 := Aside0.mk h_; clear h_ zb_0 zb_1; obtain ⟨ok4, ok5, h_⟩ := St.takeT H5.out 2 rfl hlt HRW.out HCU.out; have H6 := Aside0.mk (St.perm_ (St.less h_ (.cons_cons _ (.cons _ (.cons _ (List.Sublist.refl _))))) (List.Perm.cons _ (List.Perm.swap _ _ _))); clear h_; have zr := St.cellT H6.out 2 rfl HCU.out)
          | (at_builtin; refine St.push (t := 23) (d := (Kd.slice 3 (Kd.int .i64))) rfl (.tmp 62) (.tmp 67) rfl Try.underlying23 (.slice none 0 0) 24 info22 rfl (by decide) (by omega) H6.out rfl rfl ⟨_, rfl, H6.out.get 0 rfl⟩ (by have := HLL.out; omega) ?_; intro v6 w6 ok6 h_; have H7 := Aside0.mk (St.perm_ h_ (List.Perm.swap _ _ _)); clear h_))
        go_roundg (X.length - (i + 1))
        case measure => omega
        case rel => exact ⟨i + 1, ok5, ok6, by omega, by omega, by go_num, ⟨by rw [E2.out]; exact H7.out⟩⟩
      | false =>
        have HQ := Aside0.mk hq
        have E2 : Aside0 ((X.take (i + 1)).filter (fun q => isRib q p) = ACC) := ⟨by rw [HFT.out]; simp only [hq]; simp⟩
        clear hq
        go_wp2_with (first
          | (go_at_call 39; (with_reducible refine (l2Size_st HF0.out (HF0.out.came C0.out hc) HPP.out HS_.out).mono ?_); rintro e w3 ⟨rfl, h_⟩; have H4 := Aside0.mk h_; clear h_; have zb_0 : w3.cell? ⟨b, 0, none⟩ = some (.slice Ar row.length cr) := St.cellB H4.out 0 rfl 0 rfl; have zb_1 : w3.cell? ⟨b, 1, none⟩ = some (.slice A9 p.length c9) := St.cellB H4.out 0 rfl 1 rfl)
          | (go_at_call 56; (with_reducible refine (spec_IsRibbonPickRUp_st H4.out (St.readT H4.out 2 rfl (Nat.le_refl i) hlt HRW.out HCU.out) (H4.out.readR 1 rfl) HRP.out HPP.out HQ.out).mono ?_); rintro e w5 ⟨rfl, h_⟩; have H5 := Aside0.mk h_; clear h_ zb_0 zb_1; have H6 := Aside0.mk (St.skipT (St.less H5.out (.cons _ (.cons _ (List.Sublist.refl _)))) 0 rfl)))
        go_roundg (X.length - (i + 1))
        case measure => omega
        case rel => exact ⟨i + 1, ok, okp, by omega, by omega, by go_num, ⟨by rw [E2.out]; exact H6.out⟩⟩
    · have hi2 : i = X.length := by omega
      subst hi2
      have hltz : ¬ (X.length : Int) < (X.length : Int) := by omega
      have H7 := HS.out
      rw [List.take_length] at H7
      have HS7 := Aside0.mk H7
      clear H7 HS
      go_wp2
      go_ret
      refine ⟨_, rfl, ?_, HS7.out.below⟩
      rw [HR.out]
      exact Kd.S_mono (HS7.out.get 1 rfl) (fun _ _ => trivial)
end Go.Proofs.Ytaghidcmefbjdaa.Q

set_option linter.unusedVariables false
set_option linter.unusedSimpArgs false
namespace Go.Proofs.Ytaghidcmefbjdaa.Q
open Go.RowKit Go.Proofs.Ytaghidcmefbjdaa.F Go.Proofs.YtaghidcmefbjdaaW.PrintWords Go.Proofs.YtaghidcmefbjdaaW.PrintLast Go.Proofs.YtaghidcmefbjdaaW.PrintMore
theorem spec_l19Room_ev (p : List Int) (k : Int) (hl : p.length ≤ 1048576) : Ev (fun q => spec_l19Room.f q p k) (decide (isPartition p = true ∧ 0 ≤ k ∧ k ≤ 9 - isum p)) := by
  unfold spec_l19Room.f
  refine Ev.bind (spec_IsPartition_ev p hl) (ev_ite (fun h => ?_) (fun h => ev_val (decide_eq_false (fun e => h e.1)).symm))
  have hb := isPartition_bd h
  have h0 := isum_ge (l := p) (fun x hx => (hb.2.2 x hx).1)
  refine Ev.bind (spec_l2Size_ev p hl (fun x hx => by have := hb.2.2 x hx; omega)) (ev_bindc (spec_l1In_eq _ _ _) (ev_val ?_))
  rw [wrap_id (by omega) (by omega), decide_eq_decide]
  exact ⟨fun e => ⟨h, e⟩, fun e => e.2⟩
end Go.Proofs.Ytaghidcmefbjdaa.Q

set_option linter.unusedVariables false
set_option linter.unusedSimpArgs false
namespace Go.Proofs.Ytaghidcmefbjdaa.Q
open Go.RowKit Go.Proofs.Ytaghidcmefbjdaa.F Go.Proofs.YtaghidcmefbjdaaW.PrintWords Go.Proofs.YtaghidcmefbjdaaW.PrintLast Go.Proofs.YtaghidcmefbjdaaW.PrintMore
abbrev Shp := S46
/-- a shape whose two rows lie apart -/
def shapeKd : Kd Shp where
  sz := 2
  E := [3]
  K := k46.K
  M := fun w base ok x cs => ∃ v0 v1, cs = [v0, v1] ∧ Kd.R (Kd.int .i64) 3 w base ok v0 x.f0 ∧ Kd.R (Kd.int .i64) 3 w base ok v1 x.f1 ∧ ∀ k, v0.ownBlock = some k → v1.ownBlock ≠ some k
  K_len := k46.K_len
  K_one := k46.K_one
  K_below := k46.K_below
  K_of_M := by
    rintro w base ok x cs ⟨v0, v1, rfl, h0, h1, _⟩
    obtain ⟨A0, c0, rfl, l0, g0⟩ := Kd.R_reads h0
    obtain ⟨A1, c1, rfl, l1, g1⟩ := Kd.R_reads h1
    exact k46_mk w x l0 g0 l1 g1
  M_mono := by
    rintro w base ok ok' x cs hok ⟨v0, v1, rfl, h0, h1, h2⟩
    exact ⟨v0, v1, rfl, Kd.R_mono h0 hok, Kd.R_mono h1 hok, h2⟩
  M_bound := by
    rintro w base ok x cs ⟨v0, v1, rfl, h0, h1, h2⟩
    exact ⟨v0, v1, rfl, Kd.R_bound h0, Kd.R_bound h1, h2⟩
  M_move := by
    rintro w w1 base ok x cs hm ⟨v0, v1, rfl, h0, h1, h2⟩
    exact ⟨v0, v1, rfl, Kd.R_move h0 hm, Kd.R_move h1 hm, h2⟩
  M_lower := by
    rintro w base base' ok x cs hb ⟨v0, v1, rfl, h0, h1, h2⟩
    exact ⟨v0, v1, rfl, Kd.R_lower h0 hb, Kd.R_lower h1 hb, h2⟩
theorem shape_C {w : World} {A : Option Addr} {n : Nat} {xs : List Shp} (h : shapeKd.C w A n xs) : k46.C w A n xs := h
theorem info_shape : ((Try.prog).info? 46).map (fun i => (i.zero, i.size, i.bytes)) = some (some (.agg #[.slice none 0 0, .slice none 0 0]), 2, 48) := by kernel_rfl
theorem und_shapes : (Try.prog).underlying 31 = some (.slice 46) := by kernel_rfl
/-- how many numbers shapes hold -/
def shBulk : List Shp → Nat
  | [] => 0
  | s :: l => s.f0.length + s.f1.length + shBulk l
def shMark (m : Nat) (s : Shp) : Shp := ⟨marks m s.f0.length, marks (m + s.f0.length) s.f1.length⟩
/-- m, m + 1 and so on, over the shapes -/
def shMarks (m : Nat) : List Shp → List Shp
  | [] => []
  | s :: l => shMark m s :: shMarks (m + s.f0.length + s.f1.length) l
theorem shMarks_length (l : List Shp) (m : Nat) : (shMarks m l).length = l.length := by
  induction l generalizing m with
  | nil => rfl
  | cons r l ih => simp [shMarks, ih]
theorem shBulk_append (a b : List Shp) : shBulk (a ++ b) = shBulk a + shBulk b := by
  induction a with
  | nil => simp [shBulk]
  | cons r l ih => simp only [List.cons_append, shBulk, ih]; omega
theorem shMarks_append (a b : List Shp) (m : Nat) : shMarks m (a ++ b) = shMarks m a ++ shMarks (m + shBulk a) b := by
  induction a generalizing m with
  | nil => simp [shMarks, shBulk]
  | cons r l ih => simp only [List.cons_append, shMarks, shBulk, ih, Nat.add_assoc]
theorem shBulk_mem {l : List Shp} {s : Shp} (h : s ∈ l) : s.f0.length + s.f1.length ≤ shBulk l := by
  induction l with
  | nil => simp at h
  | cons q l ih =>
    unfold shBulk
    rcases List.mem_cons.1 h with rfl | h
    · omega
    · have := ih h; omega
theorem shMarks_step (l : List Shp) (m i : Nat) (h : i < l.length) : (shMarks m (l.take i) ++ l.drop i).set i (shMark (m + shBulk (l.take i)) l[i]) = shMarks m (l.take (i + 1)) ++ l.drop (i + 1) := by
  rw [List.take_succ_eq_append_getElem h, shMarks_append, List.set_append_right _ _ (by rw [shMarks_length, List.length_take]; omega), shMarks_length, List.length_take, Nat.min_eq_left (Nat.le_of_lt h), Nat.sub_self]
  simp only [shMarks, List.append_assoc, List.cons_append, List.nil_append]
  rw [show l.drop i = l[i] :: l.drop (i + 1) from List.drop_eq_getElem_cons h]
  rfl
theorem rdS_eq (l : List Shp) (i : Nat) (h : i < l.length) : rd_T46 l (i : Int) = l[i] := by
  unfold rd_T46
  rw [Int.toNat_natCast, List.getD_eq_getElem?_getD, List.getElem?_eq_getElem h]; rfl
theorem eqShapeS_ev (l : List Shp) (hl : l.length ≤ 1152921504606846976) (hb : shBulk l ≤ 1152921504606846976) : Ev (fun k => laws_eqShapeS.f k l l) true := by
  unfold laws_eqShapeS.f
  refine ev_pos rfl ?_
  refine downTo (P := fun i => Ev (fun k => laws_eqShapeS.l0 k l l (i : Int)) true) l.length ?_ ?_ 0 (by omega)
  · exact Ev.step (fun k => by rw [laws_eqShapeS.l0]) (ev_neg (by omega) (ev_val rfl))
  · intro i hi ih
    have h1 := shBulk_mem (List.getElem_mem hi)
    refine Ev.step (fun k => by rw [laws_eqShapeS.l0]) (ev_pos (by omega) (ev_pos (by omega) (ev_pos (by omega) ?_)))
    rw [rdS_eq l i hi]
    refine Ev.bind (r := true) ?_ (ev_pos rfl ?_)
    · unfold laws_eqShape.f
      exact Ev.bind (eqIntS_ev _ _ (by omega)) (ev_pos (by simp) (Ev.bind (eqIntS_ev _ _ (by omega)) (ev_pos (by simp) (ev_val rfl))))
    · rw [wrap_succ (by omega)]
      exact ih
theorem heldShapeS_ev (l : List Shp) (m : Nat) (hl : l.length ≤ 1152921504606846976) (hb : shBulk l ≤ 1152921504606846976) (hm : m ≤ 1152921504606846976) : Ev (fun k => laws_heldShapeS.f k (shMarks m l) (m : Int)) ((m + shBulk l : Nat) : Int) := by
  unfold laws_heldShapeS.f
  refine downTo (P := fun i => Ev (fun k => laws_heldShapeS.l0 k (shMarks m l) ((m + shBulk (l.take i) : Nat) : Int) (i : Int)) ((m + shBulk l : Nat) : Int)) l.length ?_ ?_ 0 (by omega)
  · rw [List.take_length]
    exact Ev.step (fun k => by rw [laws_heldShapeS.l0]) (ev_neg (by rw [shMarks_length]; omega) (ev_val rfl))
  · intro i hi ih
    have e : (shMarks m l)[i]'(by rw [shMarks_length]; exact hi) = shMark (m + shBulk (l.take i)) l[i] := by
      have h0 := shMarks_append (l.take i) (l.drop i) m
      rw [List.take_append_drop] at h0
      have h2 : (shMarks m l)[i]? = some (shMark (m + shBulk (l.take i)) l[i]) := by
        rw [h0, List.getElem?_append_right (by rw [shMarks_length, List.length_take]; omega), shMarks_length, List.length_take, Nat.min_eq_left (Nat.le_of_lt hi), Nat.sub_self, List.drop_eq_getElem_cons hi]
        rfl
      rw [List.getElem?_eq_getElem (by rw [shMarks_length]; exact hi)] at h2
      exact Option.some.inj h2
    have h3 := shBulk_append (l.take i) (l.drop i)
    rw [List.take_append_drop, List.drop_eq_getElem_cons hi] at h3
    simp only [shBulk] at h3
    have e2 : shBulk (l.take (i + 1)) = shBulk (l.take i) + (l[i].f0.length + l[i].f1.length) := by
      rw [List.take_succ_eq_append_getElem hi, shBulk_append]
      simp only [shBulk]
      omega
    refine Ev.step (fun k => by rw [laws_heldShapeS.l0]) (ev_pos (by rw [shMarks_length]; omega) (ev_pos (by omega) ?_))
    rw [rdS_eq _ i (by rw [shMarks_length]; exact hi), e]
    simp only [shMark]
    refine Ev.bind (heldIntS_ev (m + shBulk (l.take i)) l[i].f0.length (by omega) (by omega)) (ev_neg (by omega) (Ev.bind (heldIntS_ev (m + shBulk (l.take i) + l[i].f0.length) l[i].f1.length (by omega) (by omega)) (ev_neg (by omega) ?_)))
    rw [wrap_succ (by omega)]
    rw [e2, ← Nat.add_assoc, ← Nat.add_assoc] at ih
    exact ih
theorem cell_same {W W1 : World} {g j : Nat} (h : W1.heap[g]? = W.heap[g]?) : W1.cell? ⟨g, j, none⟩ = W.cell? ⟨g, j, none⟩ := by simp [World.cell?, h]
set_option maxHeartbeats 4000000 in
set_option maxRecDepth 100000 in
theorem markShapeS_calls (P : Nat → Prop) (u : Value) (l : List Shp) (m : Nat) (w0 w : World) (hB : Below w0.heap.size w0 w) (hS : Kd.S shapeKd 46 w w0.heap.size P u l)
    (hb : shBulk l ≤ 1152921504606846976) (hm : m ≤ 1152921504606846976) (hl : l.length ≤ 1152921504606846976) :
    Calls Try.prog 24 #[u, .int .i64 (m : Int)] w fun e w' => e = .returned (.int .i64 ((m + shBulk l : Nat) : Int)) ∧ Kd.S shapeKd 46 w' w0.heap.size P u (shMarks m l) ∧ Below w0.heap.size w0 w' ∧ Kept w w' P := by
  have HS := Aside0.mk hS
  have HB := Aside0.mk hB
  obtain ⟨A, c, hu⟩ := Kd.R_slice (Kd.S_R hS)
  subst hu
  clear hS hB
  go_enter Try.func24, Try.ntmps24
  go_wp2
  go_loopg [1, 5] l.length (fun kq v1 v5 wr => ∃ i j : Nat, i ≤ l.length ∧ l.length - i ≤ kq ∧ Aside0 (j = m + shBulk (l.take i)) ∧ v1 = .int .i64 (j : Int) ∧ v5 = .int .i64 i ∧ Aside0 (Kd.S shapeKd 46 wr w0.heap.size P (.slice A l.length c) (shMarks m (l.take i) ++ l.drop i)) ∧ Aside0 (Below w0.heap.size w0 wr) ∧ Aside0 (Kept w wr P))
  case atStart => exact ⟨0, m, Nat.zero_le _, by omega, ⟨by simp [shBulk]⟩, rfl, rfl, HS, HB, ⟨Kept.refl _ _⟩⟩
  case round =>
    clear HS HB
    obtain ⟨i, j, hi, hg, HJ, rfl, rfl, HS, HB, HK⟩ := hrel
    by_cases hlt : i < l.length
    · have hltz : (i : Int) < (l.length : Int) := by omega
      have hiz : (0 : Int) ≤ (i : Int) := by omega
      have hx : (shMarks m (l.take i) ++ l.drop i).getD (i : Int).toNat ⟨[], []⟩ = l[i] := by
        rw [Int.toNat_natCast, List.getD_eq_getElem?_getD, List.getElem?_append_right (by rw [shMarks_length, List.length_take]; omega), shMarks_length, List.length_take, Nat.min_eq_left hi, Nat.sub_self, List.getElem?_drop, Nat.add_zero, List.getElem?_eq_getElem hlt]
        rfl
      obtain ⟨g, e0⟩ : ∃ g, (Value.slice A l.length c) = .slice (some ⟨g, 0, none⟩) l.length c := by
        obtain ⟨g, cc, e0, _⟩ := Kd.R_form (Kd.S_R HS.out) (by simp [shMarks_length]; omega)
        injection e0 with ea el ec
        exact ⟨g, by rw [ea]⟩
      injection e0 with ea _ _
      subst ea
      obtain ⟨oki, cs, hcl, hM, hcc, hfr, hoki, hH⟩ := Kd.S_elem HS.out ⟨[], []⟩ (i : Int) (by omega) (by omega)
      rw [hx] at hM
      have hlb : l[i].f0.length + l[i].f1.length + shBulk (l.take i) ≤ shBulk l := by
        have h3 := shBulk_append (l.take i) (l.drop i)
        rw [List.take_append_drop, List.drop_eq_getElem_cons hlt] at h3
        simp only [shBulk] at h3
        omega
      have hst := shMarks_step l m i hlt
      have hjj : m + shBulk (l.take i) + (l[i].f0.length + l[i].f1.length) = m + shBulk (l.take (i + 1)) := by
        rw [List.take_succ_eq_append_getElem hlt, shBulk_append]
        simp only [shBulk]
        omega
      have hj := HJ.out
      rw [← hj] at hst hjj
      obtain ⟨x0, x1, hx01⟩ : ∃ x0 x1, l[i] = ⟨x0, x1⟩ := ⟨l[i].f0, l[i].f1, rfl⟩
      rw [hx01] at hM hst hjj hlb
      simp only [shMark] at hM hst hjj hlb
      obtain ⟨v0, v1, rfl, hR0, hR1, hap⟩ := hM
      obtain ⟨A0, c0, e1⟩ := Kd.R_slice hR0
      subst e1
      obtain ⟨A1, c1, e1⟩ := Kd.R_slice hR1
      subst e1
      have ei : (i : Int).toNat * shapeKd.sz = i * 2 := by show (i : Int).toNat * 2 = i * 2; omega
      have hc0 := hcc 0 _ rfl
      have hc1 := hcc 1 _ rfl
      rw [ei] at hc0 hc1
      rw [Nat.add_zero] at hc0
      obtain ⟨j2, hj2⟩ : ∃ q, q = j + x0.length := ⟨_, rfl⟩
      have hK0_ := markIntS_ev x0 j (by omega) (by omega)
      rw [← hj2] at hst hK0_
      obtain ⟨K0, hK0⟩ := hK0_
      obtain ⟨K1, hK1⟩ := markIntS_ev x1 j2 (by omega) (by omega)
      have J2 := Aside0.mk hj2
      have J1 := Aside0.mk hjj
      have ST := Aside0.mk hst
      have HK0 := Aside0.mk (hK0 K0 (Nat.le_refl _))
      have HK1 := Aside0.mk (hK1 K1 (Nat.le_refl _))
      have R0 := Aside0.mk (Kd.R_tight rfl hR0)
      have R1 := Aside0.mk (Kd.R_tight rfl hR1)
      have O0 := Aside0.mk hR0.1
      have O1 := Aside0.mk hR1.1
      have HAP := Aside0.mk hap
      have HO := Aside0.mk hoki
      have HH := Aside0.mk hH
      have HC1 := Aside0.mk hc1
      clear hst hK0 hK1 hR0 hR1 hap hoki hH hjj hj hj2 hx hcl hcc hfr HJ hx01 ei hc1
      go_wp2_with (first
        | (go_at_call 14; (with_reducible refine (laws_markIntS.calls K0 _ _ x0 (j : Int) _ _ w0 _ HB.out R0.out HK0.out).mono ?_); rintro e w6 ⟨rfl, hr6, hb6, hk6⟩; have R6 := Aside0.mk hr6; have B6 := Aside0.mk hb6; have K6 := Aside0.mk hk6; clear hr6 hb6 hk6; have R16 := Aside0.mk (Kd.R_step R1.out (fun k hk hlt_ => K6.out.2 k hlt_ (fun e_ => HAP.out k e_.symm hk.symm))); have hc1 : w6.cell? ⟨g, i * 2 + 1, none⟩ = some (.slice A1 x1.length c1) := (cell_same (K6.out.2 g (World.block_lt_of_cell? _ _ HC1.out) (fun e_ => (HO.out g (O0.out g e_.symm)).2 rfl))).trans HC1.out)
        | (go_at_call 14; (with_reducible refine (laws_markIntS.calls K1 _ _ x1 (j2 : Int) _ _ w0 _ B6.out R16.out HK1.out).mono ?_); rintro e w7 ⟨rfl, hr7, hb7, hk7⟩; have R7 := Aside0.mk hr7; have B7 := Aside0.mk hb7; have K7 := Aside0.mk hk7; clear hr7 hb7 hk7))
      go_roundg (l.length - (i + 1))
      case measure => omega
      case rel =>
        refine ⟨i + 1, j2 + x1.length, by omega, by omega, ⟨by have := J1.out; have := J2.out; omega⟩, rfl, by go_num, ⟨?_⟩, B7, ⟨?_⟩⟩
        · rw [← ST.out]
          have hM : shapeKd.M w7 w0.heap.size oki ⟨marks j x0.length, marks j2 x1.length⟩ [.slice A0 x0.length c0, .slice A1 x1.length c1] :=
            ⟨_, _, rfl, Kd.R_mono (Kd.R_step (Kd.R_tight rfl R6.out) (fun k hk hlt_ => K7.out.2 k hlt_ (fun e_ => HAP.out k hk.symm e_.symm))) (fun k hk => O0.out k hk.symm), Kd.R_mono (Kd.R_tight rfl R7.out) (fun k hk => O1.out k hk.symm), HAP.out⟩
          have h1 := Kd.H_back (Kd.H_step HH.out (fun k _ hn hlt_ => (K7.out.2 k (Nat.lt_of_lt_of_le hlt_ K6.out.1) (fun e_ => hn (O1.out k e_.symm))).trans (K6.out.2 k hlt_ (fun e_ => hn (O0.out k e_.symm))))) (x' := ⟨marks j x0.length, marks j2 x1.length⟩) (okp := oki) hM (fun _ h => h)
          rwa [Int.toNat_natCast] at h1
        · exact (HK.out.then_ K6.out (fun k hk => .inl (HO.out k (O0.out k hk.symm)).1)).then_ K7.out (fun k hk => .inl (HO.out k (O1.out k hk.symm)).1)
    · have : i = l.length := by omega
      subst this
      have hltz : ¬ (l.length : Int) < (l.length : Int) := by omega
      replace HS := Aside0.mk (show Kd.S _ _ _ _ _ _ (shMarks m l) by have := HS.out; rwa [List.take_length, List.drop_length, List.append_nil] at this)
      go_wp2
      go_ret
      exact ⟨by have := HJ.out; rw [List.take_length] at this; rw [this]; rfl, HS.out, HB.out, HK.out⟩
section
variable {w W : World} {L L' : List Ob} {ok : Nat → Prop} {v v' : Value} {xs : List Shp} {o1 o2 : Ob}
theorem eqShapeS_st_same (h : St w W L) (hr : Reads shapeKd W v xs) (hr' : Reads shapeKd W v' xs) (hl : xs.length ≤ 1152921504606846976) (hb : shBulk xs ≤ 1152921504606846976) :
    Calls Try.prog 23 #[v, v'] W fun e W' => e = .returned (.bool true) ∧ St w W' L := by
  obtain ⟨A, c, rfl, hc, hC⟩ := hr
  obtain ⟨A', c', rfl, hc', hC'⟩ := hr'
  obtain ⟨K, hK⟩ := eqShapeS_ev xs hl hb
  refine (laws_eqShapeS.calls K A c xs A' c' xs _ W (shape_C hC) hc (shape_C hC') hc' (hK K (Nat.le_refl _))).mono ?_
  rintro e W' ⟨rfl, hd⟩
  exact ⟨rfl, h.quiet hd⟩
theorem heldShapeS_st (h : St w W L) (xs : List Shp) (m : Nat) (hr : Reads shapeKd W v (shMarks m xs)) (hm : m ≤ 1152921504606846976) (hl : xs.length ≤ 1152921504606846976) (hb : shBulk xs ≤ 1152921504606846976) :
    Calls Try.prog 25 #[v, .int .i64 (m : Int)] W fun e W' => e = .returned (.int .i64 ((m + shBulk xs : Nat) : Int)) ∧ St w W' L := by
  obtain ⟨A, c, rfl, hc, hC⟩ := hr
  obtain ⟨K, hK⟩ := heldShapeS_ev xs m hl hb hm
  refine (laws_heldShapeS.calls K A c _ (m : Int) _ W (shape_C hC) hc (hK K (Nat.le_refl _))).mono ?_
  rintro e W' ⟨rfl, hd⟩
  exact ⟨rfl, h.drawn hd⟩
theorem markShapeS_st (h : St w W L) (i : Nat) (hi : L[i]? = some (obS shapeKd 46 w ok v xs)) (m : Nat) (hm : m ≤ 1152921504606846976) (hl : xs.length ≤ 1152921504606846976) (hb : shBulk xs ≤ 1152921504606846976) (hL : L.set i (obS shapeKd 46 w ok v (shMarks m xs)) = L') :
    Calls Try.prog 24 #[v, .int .i64 (m : Int)] W fun e W' => e = .returned (.int .i64 ((m + shBulk xs : Nat) : Int)) ∧ St w W' L' := by
  have hR : Kd.S shapeKd 46 W w.heap.size ok v xs := h.get i hi
  refine (markShapeS_calls ok v xs m w W h.below hR hb hm hl).mono ?_
  rintro e W' ⟨rfl, hr, hb, hk⟩
  exact ⟨rfl, h.mark (o' := obS shapeKd 46 w ok v (shMarks m xs)) i hi rfl firmS hb hk hr hL⟩
/-- two objects told as one -/
def ob2 (o1 o2 : Ob) : Ob := ⟨fun k => o1.ok k ∨ o2.ok k, fun W => o1.P W ∧ o2.P W⟩
theorem St.merge (h : St w W (o1 :: o2 :: L)) : St w W (ob2 o1 o2 :: L) := by
  obtain ⟨h1, h2⟩ := List.pairwise_cons.1 h.apart
  obtain ⟨h3, h4⟩ := List.pairwise_cons.1 h2
  obtain ⟨a1, a2, a3⟩ := h.own o1 (by simp)
  obtain ⟨b1, b2, b3⟩ := h.own o2 (by simp)
  refine ⟨h.below, fun o ho => ?_, List.Pairwise.cons (fun o ho k hk hk2 => ?_) h4⟩
  · rcases List.mem_cons.1 ho with rfl | ho
    · exact ⟨fun k hk => hk.elim (a1 k) (b1 k), ⟨a2, b2⟩, fun W W' hP hm => ⟨a3 W W' hP.1 (fun k hk => hm k (.inl hk)), b3 W W' hP.2 (fun k hk => hm k (.inr hk))⟩⟩
    · exact h.own o (by simp [ho])
  · exact hk.elim (fun e => h1 o (by simp [ho]) k e hk2) (fun e => h3 o ho k e hk2)
/-- a shape out of two rows -/
theorem St.shapeM {ok1 ok2 : Nat → Prop} {v1 v2 : Value} {x1 x2 : List Int} (h : St w W (obR (Kd.int .i64) 3 w ok1 v1 x1 :: obR (Kd.int .i64) 3 w ok2 v2 x2 :: L)) : shapeKd.M W w.heap.size (ob2 (obR (Kd.int .i64) 3 w ok1 v1 x1) (obR (Kd.int .i64) 3 w ok2 v2 x2)).ok ⟨x1, x2⟩ [v1, v2] := by
  have hR1 : Kd.R (Kd.int .i64) 3 W w.heap.size ok1 v1 x1 := h.get 0 rfl
  have hR2 : Kd.R (Kd.int .i64) 3 W w.heap.size ok2 v2 x2 := h.get 1 rfl
  exact ⟨v1, v2, rfl, Kd.R_mono hR1 (fun k hk => .inl hk), Kd.R_mono hR2 (fun k hk => .inr hk), fun k h1 h2 => (List.pairwise_cons.1 h.apart).1 (obR (Kd.int .i64) 3 w ok2 v2 x2) (by simp) k (hR1.1 k h1) (hR2.1 k h2)⟩
end
end Go.Proofs.Ytaghidcmefbjdaa.Q

set_option linter.unusedVariables false
set_option linter.unusedSimpArgs false
namespace Go.Proofs.Ytaghidcmefbjdaa.Q
open Go.RowKit Go.Proofs.Ytaghidcmefbjdaa.F Go.Proofs.YtaghidcmefbjdaaW.PrintWords Go.Proofs.YtaghidcmefbjdaaW.PrintLast Go.Proofs.YtaghidcmefbjdaaW.PrintMore
theorem bulk_le9 {m : List (List Int)} : ∀ (_ : ∀ r ∈ m, r.length ≤ 9), bulk m ≤ 9 * m.length := by
  induction m with
  | nil => intro _; simp [bulk]
  | cons r m ih =>
    intro h
    have h1 := h r (by simp)
    have h2 := ih (fun s hs => h s (by simp [hs]))
    simp only [bulk, List.length_cons]
    omega
end Go.Proofs.Ytaghidcmefbjdaa.Q

set_option linter.unusedVariables false
set_option linter.unusedSimpArgs false
namespace Go.Proofs.Ytaghidcmefbjdaa.Q
open Go.RowKit Go.Proofs.Ytaghidcmefbjdaa.F Go.Proofs.YtaghidcmefbjdaaW.PrintWords Go.Proofs.YtaghidcmefbjdaaW.PrintLast Go.Proofs.YtaghidcmefbjdaaW.PrintMore
section
open Go.ChangeShapes Go.WideShapes
variable {H : Type} {enc : TypeId × Value → H} {P : Program} {W : World}
theorem open_ints_C {t e : TypeId} {k : IntKind} {fuel : Nat} {v : Value} {x : DataW H × List MemPlace} (ht : P.underlying t = some (.slice e)) (he : P.underlying e = some (.int k)) (hc : P.cellsOf e = 1)
    (h : DataW.trod enc P W 0 (fun _ => true) true fuel t [v] = some x) :
    ∃ (a : Option Addr) (l : List Int) (cap : Nat), v = .slice a l.length cap ∧ l.length ≤ cap ∧ l.length ≤ maxLen ∧ (Kd.int k).C W a l.length l ∧ ∀ n ∈ l, (Lit.int k n).wf = true := by
  rcases open_ints ht he hc h with ⟨hcs, _⟩ | ⟨a, len, cap, zs, hcs, _, hl, hm, hz, _, hcell, hw⟩
  · obtain rfl : v = .slice none 0 0 := by simpa using hcs
    exact ⟨none, [], 0, rfl, Nat.le_refl _, Nat.zero_le _, Kd.C_nil _ _, by simp⟩
  · obtain rfl : v = .slice (some a) len cap := by simpa using hcs
    simp only [if_true] at hz
    have hlen : (zs.take len).length = len := by rw [List.length_take, hz]; omega
    refine ⟨some a, zs.take len, cap, by rw [hlen], by rw [hlen]; exact hl, by rw [hlen]; omega, ⟨rfl, by rw [hlen]; unfold maxLen at hm; omega, fun _ => ⟨a, rfl, fun j p hj => ?_⟩⟩, fun n hn => hw n (List.mem_of_mem_take hn)⟩
    have hjl : j < len := by have := (List.getElem?_eq_some_iff.1 hj).1; omega
    refine ⟨[.int k p], rfl, rfl, fun i u hu => ?_⟩
    cases i with
    | zero =>
      obtain rfl : Value.int k p = u := by simpa using hu
      have := hcell j (by omega)
      rw [show j * (Kd.int k).sz + 0 = j from by show j * 1 + 0 = j; omega, this]
      rw [List.getElem?_take, if_pos hjl] at hj
      rw [List.getD_eq_getElem?_getD, hj]; rfl
    | succ i => simp at hu
theorem open_rows_C {t e q : TypeId} {k : IntKind} {fuel : Nat} {v : Value} {x : DataW H × List MemPlace} (ht : P.underlying t = some (.slice e)) (he : P.underlying e = some (.slice q)) (hq : P.underlying q = some (.int k))
    (ce : P.cellsOf e = 1) (cq : P.cellsOf q = 1) (h : DataW.trod enc P W 0 (fun _ => true) true fuel t [v] = some x) :
    ∃ (a : Option Addr) (l : List (List Int)) (cap : Nat), v = .slice a l.length cap ∧ l.length ≤ cap ∧ l.length ≤ maxLen ∧ (Kd.slice q (Kd.int k)).C W a l.length l ∧ (∀ r ∈ l, r.length ≤ maxLen) ∧ ∀ r ∈ l, ∀ n ∈ r, (Lit.int k n).wf = true := by
  rcases Go.Deep.open_int_rows ht he hq ce cq h with ⟨hcs, _⟩ | ⟨a, len, cap, A, L, C, Z, hcs, _, hl, hm, _, hrow⟩
  · obtain rfl : v = .slice none 0 0 := by simpa using hcs
    exact ⟨none, [], 0, rfl, Nat.le_refl _, Nat.zero_le _, Kd.C_nil _ _, by simp, by simp⟩
  · obtain rfl : v = .slice (some a) len cap := by simpa using hcs
    have hlen : ((List.range len).map fun r => (Z r).take (L r)).length = len := by simp
    have hel : ∀ r, r < len → ((Z r).take (L r)).length = L r := by
      intro r hr
      obtain ⟨_, h1, _, h3, _⟩ := hrow r (by omega)
      rw [List.length_take, h3]; omega
    refine ⟨some a, (List.range len).map fun r => (Z r).take (L r), cap, by rw [hlen], by rw [hlen]; exact hl, by rw [hlen]; omega, ⟨rfl, by rw [hlen]; unfold maxLen at hm; omega, fun _ => ⟨a, rfl, fun j p hj => ?_⟩⟩, ?_, ?_⟩
    · have hjl : j < len := by have := (List.getElem?_eq_some_iff.1 hj).1; omega
      have hp : (Z j).take (L j) = p := by
        rw [List.getElem?_map, List.getElem?_range hjl] at hj
        simpa using hj
      subst hp
      obtain ⟨h0, h1, h2, h3, h4, h5, h6⟩ := hrow j (by omega)
      have hL := hel j hjl
      refine ⟨[.slice (A j) (L j) (C j)], rfl, ⟨A j, C j, by rw [hL], by rw [hL]; exact h1, rfl, by rw [hL]; unfold maxLen at h2; omega, fun hpos => ?_⟩, fun i u hu => ?_⟩
      · rw [hL] at hpos
        cases hA : A j with
        | none => have := h5 hA; omega
        | some a' =>
          refine ⟨a', rfl, fun c y hc => ?_⟩
          have hcl : c < L j := by have := (List.getElem?_eq_some_iff.1 hc).1; omega
          refine ⟨[.int k y], rfl, rfl, fun i u hu => ?_⟩
          cases i with
          | zero =>
            obtain rfl : Value.int k y = u := by simpa using hu
            rw [show c * (Kd.int k).sz + 0 = c from by show c * 1 + 0 = c; omega, (h6 a' hA).2 c (by omega)]
            rw [List.getElem?_take, if_pos hcl] at hc
            rw [List.getD_eq_getElem?_getD, hc]; rfl
          | succ i => simp at hu
      · cases i with
        | zero =>
          obtain rfl : Value.slice (A j) (L j) (C j) = u := by simpa using hu
          rw [show j * (Kd.slice q (Kd.int k)).sz + 0 = j from by show j * 1 + 0 = j; omega]
          exact h0
        | succ i => simp at hu
    · intro r hr
      obtain ⟨j, hj, rfl⟩ := List.mem_map.1 hr
      have hjl := List.mem_range.1 hj
      obtain ⟨_, h1, h2, _⟩ := hrow j (by omega)
      rw [hel j hjl]; omega
    · intro r hr n hn
      obtain ⟨j, hj, rfl⟩ := List.mem_map.1 hr
      have hjl := List.mem_range.1 hj
      obtain ⟨_, _, _, _, h4, _⟩ := hrow j (by omega)
      exact h4 n (List.mem_of_mem_take hn)
end
end Go.Proofs.Ytaghidcmefbjdaa.Q
