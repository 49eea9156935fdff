/- Lists in which each number from 1 to their length occurs: they are those without repetition that hold no greater one; the places of a word's numbers; no program. -/
import Derived.Test.YtaghidcmefbjdaaDoorF0
import Derived.Test.YtaghidcmefbjdaaDoorQBase
set_option linter.unusedVariables false
set_option linter.unusedSimpArgs false
namespace Go.Proofs.YtaghidcmefbjdaaDoor.Q
open Go.RowKit Go.Proofs.YtaghidcmefbjdaaDoor.F Go.Proofs.YtaghidcmefbjdaaDoorW.PrintWords Go.Proofs.YtaghidcmefbjdaaDoorW.PrintLast Go.Proofs.YtaghidcmefbjdaaDoorW.PrintMore
/-- how often the numbers 1 to n occur -/
def sumCount (l : List Int) : Nat → Nat
  | 0 => 0
  | n + 1 => sumCount l n + l.countP (fun x => decide (x = ((n + 1 : Nat) : Int)))
theorem countP_split (l : List Int) (p q r : Int → Bool) (h : ∀ x ∈ l, (if r x then 1 else 0) = (if p x then 1 else 0) + (if q x then (1 : Nat) else 0)) : l.countP r = l.countP p + l.countP q := by
  induction l with
  | nil => rfl
  | cons x l ih =>
    have h1 := h x (by simp)
    have h2 := ih (fun y hy => h y (by simp [hy]))
    simp only [List.countP_cons]
    omega
theorem sumCount_eq (l : List Int) (n : Nat) : sumCount l n = l.countP (fun x => decide (1 ≤ x ∧ x ≤ (n : Int))) := by
  induction n with
  | zero =>
    rw [sumCount]; symm
    rw [List.countP_eq_zero]
    intro x _; simp; omega
  | succ n ih =>
    rw [sumCount, ih]; symm
    apply countP_split
    intro x _
    by_cases h1 : 1 ≤ x ∧ x ≤ (n : Int)
    · have : ¬ x = ((n + 1 : Nat) : Int) := by omega
      have h3 : 1 ≤ x ∧ x ≤ ((n + 1 : Nat) : Int) := by omega
      simp only [decide_eq_true h1, decide_eq_true h3, decide_eq_false this]; rfl
    · by_cases h2 : x = ((n + 1 : Nat) : Int)
      · have h3 : 1 ≤ x ∧ x ≤ ((n + 1 : Nat) : Int) := by omega
        simp only [decide_eq_false h1, decide_eq_true h3, decide_eq_true h2]; rfl
      · have h3 : ¬ (1 ≤ x ∧ x ≤ ((n + 1 : Nat) : Int)) := by omega
        simp only [decide_eq_false h1, decide_eq_false h3, decide_eq_false h2]; rfl
theorem countP_pos_of_mem {l : List Int} {v : Int} (h : v ∈ l) : 1 ≤ l.countP (fun x => decide (x = v)) := by
  have : 0 < l.countP (fun x => decide (x = v)) := List.countP_pos_iff.2 ⟨v, h, by simp⟩
  omega
theorem mem_of_countP {l : List Int} {v : Int} (h : 1 ≤ l.countP (fun x => decide (x = v))) : v ∈ l := by
  obtain ⟨x, hx, he⟩ := List.countP_pos_iff.1 (show 0 < l.countP (fun x => decide (x = v)) by omega)
  rw [decide_eq_true_eq] at he
  exact he ▸ hx
theorem nodup_count {l : List Int} (h : l.Nodup) (v : Int) : l.countP (fun x => decide (x = v)) ≤ 1 := by
  have := List.nodup_iff_count.1 h v
  rw [List.count] at this
  refine Nat.le_trans (Nat.le_of_eq ?_) this
  apply List.countP_congr
  intro x _; simp
theorem nodup_of_count {l : List Int} (h : ∀ v, l.countP (fun x => decide (x = v)) ≤ 1) : l.Nodup := by
  rw [List.nodup_iff_count]
  intro v
  rw [List.count]
  refine Nat.le_trans (Nat.le_of_eq ?_) (h v)
  apply List.countP_congr
  intro x _; simp
theorem sumCount_ge {l : List Int} (n : Nat) (h : ∀ v : Nat, 1 ≤ v → v ≤ n → (v : Int) ∈ l) : n ≤ sumCount l n := by
  induction n with
  | zero => omega
  | succ n ih =>
    have h1 := ih (fun v a b => h v a (by omega))
    have h2 := countP_pos_of_mem (h (n + 1) (by omega) (by omega))
    rw [sumCount]; omega
theorem sumCount_le {l : List Int} (hd : l.Nodup) (n : Nat) : sumCount l n ≤ n := by
  induction n with
  | zero => simp [sumCount]
  | succ n ih =>
    have := nodup_count hd ((n + 1 : Nat) : Int)
    rw [sumCount]; omega
theorem sumCount_tight {l : List Int} (n : Nat) (hle : sumCount l n ≤ n) (h : ∀ v : Nat, 1 ≤ v → v ≤ n → (v : Int) ∈ l) : ∀ v : Nat, 1 ≤ v → v ≤ n → l.countP (fun x => decide (x = (v : Int))) = 1 := by
  induction n with
  | zero => intro v a b; omega
  | succ n ih =>
    have h1 := sumCount_ge n (fun v a b => h v a (by omega))
    have h2 := countP_pos_of_mem (h (n + 1) (by omega) (by omega))
    rw [sumCount] at hle
    intro v a b
    by_cases e : v = n + 1
    · subst e; omega
    · exact ih (by omega) (fun v a b => h v a (by omega)) v a (by omega)
theorem sumCount_full {l : List Int} (hd : l.Nodup) (n : Nat) (hge : n ≤ sumCount l n) : ∀ v : Nat, 1 ≤ v → v ≤ n → (v : Int) ∈ l := by
  induction n with
  | zero => intro v a b; omega
  | succ n ih =>
    have h1 := sumCount_le hd n
    have h2 := nodup_count hd ((n + 1 : Nat) : Int)
    rw [sumCount] at hge
    intro v a b
    by_cases e : v = n + 1
    · subst e; exact mem_of_countP (by omega)
    · exact ih (by omega) v a (by omega)
/-- Each number from 1 to the length occurs: just where none occurs twice and none is greater. -/
theorem once_iff {l : List Int} (hp : ∀ x ∈ l, 1 ≤ x) : (∀ v : Nat, 1 ≤ v → v ≤ l.length → (v : Int) ∈ l) ↔ (l.Nodup ∧ ∀ x ∈ l, x ≤ (l.length : Int)) := by
  constructor
  · intro h
    have h1 := sumCount_ge l.length h
    have h2 : sumCount l l.length ≤ l.length := by rw [sumCount_eq]; exact List.countP_le_length
    have h3 : l.countP (fun x => decide (1 ≤ x ∧ x ≤ (l.length : Int))) = l.length := by rw [← sumCount_eq]; omega
    have h4 : ∀ x ∈ l, x ≤ (l.length : Int) := by
      intro x hx
      have := List.countP_eq_length.1 h3 x hx
      simp at this; exact this.2
    refine ⟨nodup_of_count (fun v => ?_), h4⟩
    by_cases hv : v ∈ l
    · have a := hp v hv
      have b := h4 v hv
      obtain ⟨m, rfl⟩ : ∃ m : Nat, v = (m : Int) := ⟨v.toNat, by omega⟩
      exact Nat.le_of_eq (sumCount_tight l.length h2 h m (by omega) (by omega))
    · rw [Nat.le_one_iff_eq_zero_or_eq_one]; left
      rw [List.countP_eq_zero]
      intro x hx he
      rw [decide_eq_true_eq] at he
      exact hv (he ▸ hx)
  · rintro ⟨hd, hle⟩
    refine sumCount_full hd l.length ?_
    rw [sumCount_eq, List.countP_eq_length.2]
    · exact Nat.le_refl _
    · intro x hx; rw [decide_eq_true_eq]; exact ⟨hp x hx, hle x hx⟩
/-- how many of the first j indices stand ahead of index i: by a smaller number, or by an equal one at a smaller index -/
def placeTo (l : List Int) (i : Nat) : Nat → Nat
  | 0 => 0
  | j + 1 => placeTo l i j + (if rd l (j : Int) < rd l (i : Int) ∨ (rd l (j : Int) = rd l (i : Int) ∧ j < i) then 1 else 0)
def placeOf (l : List Int) (i : Nat) : Int := ((1 + placeTo l i l.length : Nat) : Int)
/-- the places of a list's numbers -/
def places (l : List Int) : List Int := (List.range l.length).map (placeOf l)
theorem placeTo_le (l : List Int) (i : Nat) : ∀ j, placeTo l i j + (if i < j then 1 else 0) ≤ j := by
  intro j
  induction j with
  | zero => simp [placeTo]
  | succ j ih =>
    rw [placeTo]
    by_cases e : j = i
    · subst e
      have : ¬ (rd l (j : Int) < rd l (j : Int) ∨ (rd l (j : Int) = rd l (j : Int) ∧ j < j)) := by omega
      rw [if_neg this]
      rw [if_neg (by omega)] at ih
      rw [if_pos (by omega)]; omega
    · by_cases h2 : i < j
      · rw [if_pos h2] at ih
        rw [if_pos (show i < j + 1 by omega)]
        split <;> omega
      · rw [if_neg h2] at ih
        rw [if_neg (show ¬ i < j + 1 by omega)]
        split <;> omega
theorem placeTo_lt {l : List Int} {i i' : Nat} (h : rd l (i : Int) < rd l (i' : Int) ∨ (rd l (i : Int) = rd l (i' : Int) ∧ i < i')) : ∀ j, placeTo l i j + (if i < j then 1 else 0) ≤ placeTo l i' j := by
  intro j
  induction j with
  | zero => simp [placeTo]
  | succ j ih =>
    rw [placeTo, placeTo]
    by_cases e : j = i
    · subst e
      have : ¬ (rd l (j : Int) < rd l (j : Int) ∨ (rd l (j : Int) = rd l (j : Int) ∧ j < j)) := by omega
      rw [if_neg this, if_pos h]
      rw [if_neg (by omega)] at ih
      rw [if_pos (by omega)]; omega
    · have hs : (if i < j + 1 then 1 else 0) = (if i < j then 1 else 0) := by
        by_cases h2 : i < j
        · rw [if_pos h2, if_pos (by omega)]
        · rw [if_neg h2, if_neg (by omega)]
      rw [hs]
      generalize (if i < j then 1 else 0) = q at ih ⊢
      by_cases hc : rd l (j : Int) < rd l (i : Int) ∨ (rd l (j : Int) = rd l (i : Int) ∧ j < i)
      · have hc' : rd l (j : Int) < rd l (i' : Int) ∨ (rd l (j : Int) = rd l (i' : Int) ∧ j < i') := by omega
        rw [if_pos hc, if_pos hc']; omega
      · rw [if_neg hc]; split <;> omega
theorem places_length (l : List Int) : (places l).length = l.length := by simp [places]
theorem places_get (l : List Int) (i : Nat) (h : i < l.length) : rd (places l) (i : Int) = placeOf l i := by
  rw [rd_eq _ i (by rw [places_length]; exact h)]
  simp [places]
theorem placeOf_bd (l : List Int) (i : Nat) (h : i < l.length) : 1 ≤ placeOf l i ∧ placeOf l i ≤ (l.length : Int) := by
  have := placeTo_le l i l.length
  rw [if_pos h] at this
  unfold placeOf; omega
theorem mem_rd {l : List Int} {x : Int} (h : x ∈ l) : ∃ i, i < l.length ∧ rd l (i : Int) = x := by
  obtain ⟨i, hi, he⟩ := List.getElem_of_mem h
  exact ⟨i, hi, by rw [rd_eq l i hi]; exact he⟩
theorem ext_rd {a b : List Int} (hl : a.length = b.length) (h : ∀ i, i < a.length → rd a (i : Int) = rd b (i : Int)) : a = b := by
  apply List.ext_getElem hl
  intro i h1 h2
  rw [← rd_eq a i h1, ← rd_eq b i h2]
  exact h i h1
theorem nodup_rd {l : List Int} (h : ∀ i j, i < j → j < l.length → rd l (i : Int) ≠ rd l (j : Int)) : l.Nodup := by
  rw [List.nodup_iff_pairwise_ne, List.pairwise_iff_getElem]
  intro i j hi hj hij
  rw [← rd_eq l i hi, ← rd_eq l j hj]
  exact h i j hij hj
theorem rd_nodup {l : List Int} (h : l.Nodup) (i j : Nat) (hij : i < j) (hj : j < l.length) : rd l (i : Int) ≠ rd l (j : Int) := by
  rw [List.nodup_iff_pairwise_ne, List.pairwise_iff_getElem] at h
  rw [rd_eq l i (by omega), rd_eq l j hj]
  exact h i j (by omega) hj hij
theorem placeTo_nodup {l : List Int} (hd : l.Nodup) (i : Nat) (hi : i < l.length) : ∀ j, j ≤ l.length → placeTo l i j = (l.take j).countP (fun x => decide (x < rd l (i : Int))) := by
  intro j
  induction j with
  | zero => intro _; simp [placeTo]
  | succ j ih =>
    intro hj
    rw [placeTo, ih (by omega), take_rd l j (by omega), List.countP_append]
    congr 1
    by_cases hc : rd l (j : Int) < rd l (i : Int)
    · rw [if_pos (.inl hc)]; simp [hc]
    · rw [if_neg]
      · simp [hc]
      · rintro (h | ⟨h, hlt⟩)
        · exact hc h
        · exact rd_nodup hd j i hlt hi h
/-- A list whose numbers are 1 and more is the list of its places just where each number from 1 to its length occurs. -/
theorem places_iff {l : List Int} (hp : ∀ x ∈ l, 1 ≤ x) : places l = l ↔ ∀ v : Nat, 1 ≤ v → v ≤ l.length → (v : Int) ∈ l := by
  rw [once_iff hp]
  constructor
  · intro h
    have hg : ∀ i, i < l.length → rd l (i : Int) = placeOf l i := fun i hi => by rw [← places_get l i hi, h]
    refine ⟨nodup_rd (fun i j hij hj he => ?_), fun x hx => ?_⟩
    · have := placeTo_lt (l := l) (i := i) (i' := j) (.inr ⟨he, hij⟩) l.length
      rw [if_pos (by omega)] at this
      rw [hg i (by omega), hg j hj] at he
      unfold placeOf at he; omega
    · obtain ⟨i, hi, rfl⟩ := mem_rd hx
      rw [hg i hi]
      exact (placeOf_bd l i hi).2
  · rintro ⟨hd, hle⟩
    have hall := (once_iff hp).2 ⟨hd, hle⟩
    refine ext_rd (places_length l) (fun i hi => ?_)
    rw [places_length] at hi
    rw [places_get l i hi]
    have hm := rd_mem l i hi
    have h1 := hp _ hm
    have h2 := hle _ hm
    unfold placeOf
    rw [placeTo_nodup hd i hi l.length (Nat.le_refl _), List.take_length]
    obtain ⟨v, hv⟩ : ∃ v : Nat, rd l (i : Int) = ((v + 1 : Nat) : Int) := ⟨(rd l (i : Int) - 1).toNat, by omega⟩
    rw [hv]
    have e : l.countP (fun x => decide (x < ((v + 1 : Nat) : Int))) = sumCount l v := by
      rw [sumCount_eq]
      apply List.countP_congr
      intro x hx
      have := hp x hx
      simp; omega
    have h3 : sumCount l v = v := by
      have a := sumCount_le hd v
      have b := sumCount_ge (l := l) v (fun u a b => hall u a (by omega))
      omega
    rw [e, h3]; omega
end Go.Proofs.YtaghidcmefbjdaaDoor.Q
