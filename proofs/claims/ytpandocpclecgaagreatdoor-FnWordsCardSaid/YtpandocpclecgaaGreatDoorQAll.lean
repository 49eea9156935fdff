/- Plain Lean: what the printed functions compute, topic by topic; conditions: those that each theorem names. -/
import Derived.Test.YtpandocpclecgaaGreatDoorF0
import Derived.Test.YtpandocpclecgaaGreatDoorF1
import Derived.Test.YtpandocpclecgaaGreatDoorF2
import Derived.Test.YtpandocpclecgaaGreatDoorF3
import Derived.Test.YtpandocpclecgaaGreatDoorF9
import Derived.Test.YtpandocpclecgaaGreatDoorF6
import Derived.Test.YtpandocpclecgaaGreatDoorF10
import Derived.Test.YtpandocpclecgaaGreatDoorF4
import Derived.Test.YtpandocpclecgaaGreatDoorF11
import Derived.Test.YtpandocpclecgaaGreatDoorF5
import Derived.Test.YtpandocpclecgaaGreatDoorF7
import Derived.Test.YtpandocpclecgaaGreatDoorF12
import Derived.Test.YtpandocpclecgaaGreatDoorF8
import Derived.Lib.Join
import Derived.Deep.DeepCutAuto
import Derived.Deep.RegionHeld3
import Derived.IntWalk
set_option linter.unusedVariables false
set_option linter.unusedSimpArgs false
namespace Go.Proofs.YtpandocpclecgaaGreatDoor.Q
open Go.RowKit Go.Proofs.YtpandocpclecgaaGreatDoor.F Go.Proofs.YtpandocpclecgaaGreatDoorW.PrintWords Go.Proofs.YtpandocpclecgaaGreatDoorW.PrintLast Go.Proofs.YtpandocpclecgaaGreatDoorW.PrintMore
section
variable {α β : Type} {r : α}
theorem ev_pos {c : Prop} [Decidable c] {A B : Nat → Option α} (h : c) (hA : Ev A r) : Ev (fun k => if c then A k else B k) r := by
  simp only [if_pos h]; exact hA
theorem ev_neg {c : Prop} [Decidable c] {A B : Nat → Option α} (h : ¬ c) (hB : Ev B r) : Ev (fun k => if c then A k else B k) r := by
  simp only [if_neg h]; exact hB
theorem ev_ite {c : Prop} [Decidable c] {A B : Nat → Option α} (hA : c → Ev A r) (hB : ¬ c → Ev B r) : Ev (fun k => if c then A k else B k) r := by
  by_cases h : c
  · exact ev_pos h (hA h)
  · exact ev_neg h (hB h)
theorem ev_bindc {o : Option β} {b : β} {f : Nat → β → Option α} (h : o = some b) (hf : Ev (fun k => f k b) r) : Ev (fun k => o.bind (f k)) r := by
  subst h; exact hf
theorem ev_val {a : α} (h : a = r) : Ev (fun _ => some a) r := by subst h; exact ⟨0, fun _ _ => rfl⟩
theorem ev_eq {g : Nat → Option α} {a : α} (h : Ev g a) (e : a = r) : Ev g r := e ▸ h
theorem ev_unique {g : Nat → Option α} {a b : α} (h : Ev g a) (h' : Ev g b) : a = b := by
  obtain ⟨K, h⟩ := h
  obtain ⟨K', h'⟩ := h'
  have e := (h (max K K') (by omega)).symm.trans (h' (max K K') (by omega))
  exact Option.some.inj e
end
theorem wrap_nat {n : Nat} (h : n ≤ 9223372036854775807) : wrap64 (n : Int) = n := by unfold wrap64; omega
theorem wrap_succ {n : Nat} (h : n < 9223372036854775807) : wrap64 ((n : Int) + 1) = ((n + 1 : Nat) : Int) := by unfold wrap64; omega
theorem wrap_id {i : Int} (h0 : -9223372036854775808 ≤ i) (h : i ≤ 9223372036854775807) : wrap64 i = i := by unfold wrap64; omega
theorem rd_nat (l : List Int) (i : Nat) : rd l (i : Int) = l.getD i 0 := by unfold rd; simp
theorem rd_eq (l : List Int) (i : Nat) (h : i < l.length) : rd l (i : Int) = l[i] := by rw [rd_nat]; simp [h]
theorem drop_rd (l : List Int) (i : Nat) (h : i < l.length) : l.drop i = rd l (i : Int) :: l.drop (i + 1) := by
  rw [rd_eq l i h]; exact List.drop_eq_getElem_cons h
theorem take_rd (l : List Int) (i : Nat) (h : i < l.length) : l.take (i + 1) = l.take i ++ [rd l (i : Int)] := by
  rw [rd_eq l i h]; exact List.take_succ_eq_append_getElem h
theorem rd_mem (l : List Int) (i : Nat) (h : i < l.length) : rd l (i : Int) ∈ l := by rw [rd_eq l i h]; exact List.getElem_mem h
theorem downTo {P : Nat → Prop} (n : Nat) (h0 : P n) (hs : ∀ i, i < n → P (i + 1) → P i) : ∀ i, i ≤ n → P i := by
  intro i hi
  obtain ⟨d, rfl⟩ : ∃ d, n = i + d := ⟨n - i, by omega⟩
  clear hi
  induction d generalizing i with
  | zero => simpa using h0
  | succ d ih => exact hs i (by omega) (ih (i + 1) (by rwa [show i + 1 + d = i + (d + 1) by omega]) (fun j hj => hs j (by omega)))
theorem rd_set (l : List Int) (i j : Nat) (v : Int) (h : i < l.length) : rd (l.set i v) (j : Int) = if i = j then v else rd l (j : Int) := by
  rw [rd_nat, rd_nat, List.getD_eq_getElem?_getD, List.getElem?_set]
  by_cases e : i = j
  · subst e; rw [if_pos rfl, if_pos h, if_pos rfl]; rfl
  · rw [if_neg e, if_neg e, List.getD_eq_getElem?_getD]
theorem rd_reverse (l : List Int) (i : Nat) (h : i < l.length) : rd l.reverse (i : Int) = rd l ((l.length - 1 - i : Nat) : Int) := by
  rw [rd_eq _ i (by simpa using h), rd_eq _ (l.length - 1 - i) (by omega)]
  simp [List.getElem_reverse]
end Go.Proofs.YtpandocpclecgaaGreatDoor.Q

set_option linter.unusedVariables false
set_option linter.unusedSimpArgs false
namespace Go.Proofs.YtpandocpclecgaaGreatDoor.Q
open Go.RowKit Go.Proofs.YtpandocpclecgaaGreatDoor.F Go.Proofs.YtpandocpclecgaaGreatDoorW.PrintWords Go.Proofs.YtpandocpclecgaaGreatDoorW.PrintLast Go.Proofs.YtpandocpclecgaaGreatDoorW.PrintMore
def sumCount (l : List Int) : Nat → Nat
  | 0 => 0
  | n + 1 => sumCount l n + l.countP (fun x => decide (x = ((n + 1 : Nat) : Int)))
theorem countP_split (l : List Int) (p q r : Int → Bool) (h : ∀ x ∈ l, (if r x then 1 else 0) = (if p x then 1 else 0) + (if q x then (1 : Nat) else 0)) : l.countP r = l.countP p + l.countP q := by
  induction l with
  | nil => rfl
  | cons x l ih =>
    have h1 := h x (by simp)
    have h2 := ih (fun y hy => h y (by simp [hy]))
    simp only [List.countP_cons]
    omega
theorem sumCount_eq (l : List Int) (n : Nat) : sumCount l n = l.countP (fun x => decide (1 ≤ x ∧ x ≤ (n : Int))) := by
  induction n with
  | zero =>
    rw [sumCount]; symm
    rw [List.countP_eq_zero]
    intro x _; simp; omega
  | succ n ih =>
    rw [sumCount, ih]; symm
    apply countP_split
    intro x _
    by_cases h1 : 1 ≤ x ∧ x ≤ (n : Int)
    · have : ¬ x = ((n + 1 : Nat) : Int) := by omega
      have h3 : 1 ≤ x ∧ x ≤ ((n + 1 : Nat) : Int) := by omega
      simp only [decide_eq_true h1, decide_eq_true h3, decide_eq_false this]; rfl
    · by_cases h2 : x = ((n + 1 : Nat) : Int)
      · have h3 : 1 ≤ x ∧ x ≤ ((n + 1 : Nat) : Int) := by omega
        simp only [decide_eq_false h1, decide_eq_true h3, decide_eq_true h2]; rfl
      · have h3 : ¬ (1 ≤ x ∧ x ≤ ((n + 1 : Nat) : Int)) := by omega
        simp only [decide_eq_false h1, decide_eq_false h3, decide_eq_false h2]; rfl
theorem countP_pos_of_mem {l : List Int} {v : Int} (h : v ∈ l) : 1 ≤ l.countP (fun x => decide (x = v)) := by
  have : 0 < l.countP (fun x => decide (x = v)) := List.countP_pos_iff.2 ⟨v, h, by simp⟩
  omega
theorem mem_of_countP {l : List Int} {v : Int} (h : 1 ≤ l.countP (fun x => decide (x = v))) : v ∈ l := by
  obtain ⟨x, hx, he⟩ := List.countP_pos_iff.1 (show 0 < l.countP (fun x => decide (x = v)) by omega)
  rw [decide_eq_true_eq] at he
  exact he ▸ hx
theorem nodup_count {l : List Int} (h : l.Nodup) (v : Int) : l.countP (fun x => decide (x = v)) ≤ 1 := by
  have := List.nodup_iff_count.1 h v
  rw [List.count] at this
  refine Nat.le_trans (Nat.le_of_eq ?_) this
  apply List.countP_congr
  intro x _; simp
theorem nodup_of_count {l : List Int} (h : ∀ v, l.countP (fun x => decide (x = v)) ≤ 1) : l.Nodup := by
  rw [List.nodup_iff_count]
  intro v
  rw [List.count]
  refine Nat.le_trans (Nat.le_of_eq ?_) (h v)
  apply List.countP_congr
  intro x _; simp
theorem sumCount_ge {l : List Int} (n : Nat) (h : ∀ v : Nat, 1 ≤ v → v ≤ n → (v : Int) ∈ l) : n ≤ sumCount l n := by
  induction n with
  | zero => omega
  | succ n ih =>
    have h1 := ih (fun v a b => h v a (by omega))
    have h2 := countP_pos_of_mem (h (n + 1) (by omega) (by omega))
    rw [sumCount]; omega
theorem sumCount_le {l : List Int} (hd : l.Nodup) (n : Nat) : sumCount l n ≤ n := by
  induction n with
  | zero => simp [sumCount]
  | succ n ih =>
    have := nodup_count hd ((n + 1 : Nat) : Int)
    rw [sumCount]; omega
theorem sumCount_tight {l : List Int} (n : Nat) (hle : sumCount l n ≤ n) (h : ∀ v : Nat, 1 ≤ v → v ≤ n → (v : Int) ∈ l) : ∀ v : Nat, 1 ≤ v → v ≤ n → l.countP (fun x => decide (x = (v : Int))) = 1 := by
  induction n with
  | zero => intro v a b; omega
  | succ n ih =>
    have h1 := sumCount_ge n (fun v a b => h v a (by omega))
    have h2 := countP_pos_of_mem (h (n + 1) (by omega) (by omega))
    rw [sumCount] at hle
    intro v a b
    by_cases e : v = n + 1
    · subst e; omega
    · exact ih (by omega) (fun v a b => h v a (by omega)) v a (by omega)
theorem sumCount_full {l : List Int} (hd : l.Nodup) (n : Nat) (hge : n ≤ sumCount l n) : ∀ v : Nat, 1 ≤ v → v ≤ n → (v : Int) ∈ l := by
  induction n with
  | zero => intro v a b; omega
  | succ n ih =>
    have h1 := sumCount_le hd n
    have h2 := nodup_count hd ((n + 1 : Nat) : Int)
    rw [sumCount] at hge
    intro v a b
    by_cases e : v = n + 1
    · subst e; exact mem_of_countP (by omega)
    · exact ih (by omega) v a (by omega)
theorem once_iff {l : List Int} (hp : ∀ x ∈ l, 1 ≤ x) : (∀ v : Nat, 1 ≤ v → v ≤ l.length → (v : Int) ∈ l) ↔ (l.Nodup ∧ ∀ x ∈ l, x ≤ (l.length : Int)) := by
  constructor
  · intro h
    have h1 := sumCount_ge l.length h
    have h2 : sumCount l l.length ≤ l.length := by rw [sumCount_eq]; exact List.countP_le_length
    have h3 : l.countP (fun x => decide (1 ≤ x ∧ x ≤ (l.length : Int))) = l.length := by rw [← sumCount_eq]; omega
    have h4 : ∀ x ∈ l, x ≤ (l.length : Int) := by
      intro x hx
      have := List.countP_eq_length.1 h3 x hx
      simp at this; exact this.2
    refine ⟨nodup_of_count (fun v => ?_), h4⟩
    by_cases hv : v ∈ l
    · have a := hp v hv
      have b := h4 v hv
      obtain ⟨m, rfl⟩ : ∃ m : Nat, v = (m : Int) := ⟨v.toNat, by omega⟩
      exact Nat.le_of_eq (sumCount_tight l.length h2 h m (by omega) (by omega))
    · rw [Nat.le_one_iff_eq_zero_or_eq_one]; left
      rw [List.countP_eq_zero]
      intro x hx he
      rw [decide_eq_true_eq] at he
      exact hv (he ▸ hx)
  · rintro ⟨hd, hle⟩
    refine sumCount_full hd l.length ?_
    rw [sumCount_eq, List.countP_eq_length.2]
    · exact Nat.le_refl _
    · intro x hx; rw [decide_eq_true_eq]; exact ⟨hp x hx, hle x hx⟩
def placeTo (l : List Int) (i : Nat) : Nat → Nat
  | 0 => 0
  | j + 1 => placeTo l i j + (if rd l (j : Int) < rd l (i : Int) ∨ (rd l (j : Int) = rd l (i : Int) ∧ j < i) then 1 else 0)
def placeOf (l : List Int) (i : Nat) : Int := ((1 + placeTo l i l.length : Nat) : Int)
def places (l : List Int) : List Int := (List.range l.length).map (placeOf l)
theorem placeTo_le (l : List Int) (i : Nat) : ∀ j, placeTo l i j + (if i < j then 1 else 0) ≤ j := by
  intro j
  induction j with
  | zero => simp [placeTo]
  | succ j ih =>
    rw [placeTo]
    by_cases e : j = i
    · subst e
      have : ¬ (rd l (j : Int) < rd l (j : Int) ∨ (rd l (j : Int) = rd l (j : Int) ∧ j < j)) := by omega
      rw [if_neg this]
      rw [if_neg (by omega)] at ih
      rw [if_pos (by omega)]; omega
    · by_cases h2 : i < j
      · rw [if_pos h2] at ih
        rw [if_pos (show i < j + 1 by omega)]
        split <;> omega
      · rw [if_neg h2] at ih
        rw [if_neg (show ¬ i < j + 1 by omega)]
        split <;> omega
theorem placeTo_lt {l : List Int} {i i' : Nat} (h : rd l (i : Int) < rd l (i' : Int) ∨ (rd l (i : Int) = rd l (i' : Int) ∧ i < i')) : ∀ j, placeTo l i j + (if i < j then 1 else 0) ≤ placeTo l i' j := by
  intro j
  induction j with
  | zero => simp [placeTo]
  | succ j ih =>
    rw [placeTo, placeTo]
    by_cases e : j = i
    · subst e
      have : ¬ (rd l (j : Int) < rd l (j : Int) ∨ (rd l (j : Int) = rd l (j : Int) ∧ j < j)) := by omega
      rw [if_neg this, if_pos h]
      rw [if_neg (by omega)] at ih
      rw [if_pos (by omega)]; omega
    · have hs : (if i < j + 1 then 1 else 0) = (if i < j then 1 else 0) := by
        by_cases h2 : i < j
        · rw [if_pos h2, if_pos (by omega)]
        · rw [if_neg h2, if_neg (by omega)]
      rw [hs]
      generalize (if i < j then 1 else 0) = q at ih ⊢
      by_cases hc : rd l (j : Int) < rd l (i : Int) ∨ (rd l (j : Int) = rd l (i : Int) ∧ j < i)
      · have hc' : rd l (j : Int) < rd l (i' : Int) ∨ (rd l (j : Int) = rd l (i' : Int) ∧ j < i') := by omega
        rw [if_pos hc, if_pos hc']; omega
      · rw [if_neg hc]; split <;> omega
theorem places_length (l : List Int) : (places l).length = l.length := by simp [places]
theorem places_get (l : List Int) (i : Nat) (h : i < l.length) : rd (places l) (i : Int) = placeOf l i := by
  rw [rd_eq _ i (by rw [places_length]; exact h)]
  simp [places]
theorem placeOf_bd (l : List Int) (i : Nat) (h : i < l.length) : 1 ≤ placeOf l i ∧ placeOf l i ≤ (l.length : Int) := by
  have := placeTo_le l i l.length
  rw [if_pos h] at this
  unfold placeOf; omega
theorem mem_rd {l : List Int} {x : Int} (h : x ∈ l) : ∃ i, i < l.length ∧ rd l (i : Int) = x := by
  obtain ⟨i, hi, he⟩ := List.getElem_of_mem h
  exact ⟨i, hi, by rw [rd_eq l i hi]; exact he⟩
theorem ext_rd {a b : List Int} (hl : a.length = b.length) (h : ∀ i, i < a.length → rd a (i : Int) = rd b (i : Int)) : a = b := by
  apply List.ext_getElem hl
  intro i h1 h2
  rw [← rd_eq a i h1, ← rd_eq b i h2]
  exact h i h1
theorem nodup_rd {l : List Int} (h : ∀ i j, i < j → j < l.length → rd l (i : Int) ≠ rd l (j : Int)) : l.Nodup := by
  rw [List.nodup_iff_pairwise_ne, List.pairwise_iff_getElem]
  intro i j hi hj hij
  rw [← rd_eq l i hi, ← rd_eq l j hj]
  exact h i j hij hj
theorem rd_nodup {l : List Int} (h : l.Nodup) (i j : Nat) (hij : i < j) (hj : j < l.length) : rd l (i : Int) ≠ rd l (j : Int) := by
  rw [List.nodup_iff_pairwise_ne, List.pairwise_iff_getElem] at h
  rw [rd_eq l i (by omega), rd_eq l j hj]
  exact h i j (by omega) hj hij
theorem placeTo_nodup {l : List Int} (hd : l.Nodup) (i : Nat) (hi : i < l.length) : ∀ j, j ≤ l.length → placeTo l i j = (l.take j).countP (fun x => decide (x < rd l (i : Int))) := by
  intro j
  induction j with
  | zero => intro _; simp [placeTo]
  | succ j ih =>
    intro hj
    rw [placeTo, ih (by omega), take_rd l j (by omega), List.countP_append]
    congr 1
    by_cases hc : rd l (j : Int) < rd l (i : Int)
    · rw [if_pos (.inl hc)]; simp [hc]
    · rw [if_neg]
      · simp [hc]
      · rintro (h | ⟨h, hlt⟩)
        · exact hc h
        · exact rd_nodup hd j i hlt hi h
theorem places_iff {l : List Int} (hp : ∀ x ∈ l, 1 ≤ x) : places l = l ↔ ∀ v : Nat, 1 ≤ v → v ≤ l.length → (v : Int) ∈ l := by
  rw [once_iff hp]
  constructor
  · intro h
    have hg : ∀ i, i < l.length → rd l (i : Int) = placeOf l i := fun i hi => by rw [← places_get l i hi, h]
    refine ⟨nodup_rd (fun i j hij hj he => ?_), fun x hx => ?_⟩
    · have := placeTo_lt (l := l) (i := i) (i' := j) (.inr ⟨he, hij⟩) l.length
      rw [if_pos (by omega)] at this
      rw [hg i (by omega), hg j hj] at he
      unfold placeOf at he; omega
    · obtain ⟨i, hi, rfl⟩ := mem_rd hx
      rw [hg i hi]
      exact (placeOf_bd l i hi).2
  · rintro ⟨hd, hle⟩
    have hall := (once_iff hp).2 ⟨hd, hle⟩
    refine ext_rd (places_length l) (fun i hi => ?_)
    rw [places_length] at hi
    rw [places_get l i hi]
    have hm := rd_mem l i hi
    have h1 := hp _ hm
    have h2 := hle _ hm
    unfold placeOf
    rw [placeTo_nodup hd i hi l.length (Nat.le_refl _), List.take_length]
    obtain ⟨v, hv⟩ : ∃ v : Nat, rd l (i : Int) = ((v + 1 : Nat) : Int) := ⟨(rd l (i : Int) - 1).toNat, by omega⟩
    rw [hv]
    have e : l.countP (fun x => decide (x < ((v + 1 : Nat) : Int))) = sumCount l v := by
      rw [sumCount_eq]
      apply List.countP_congr
      intro x hx
      have := hp x hx
      simp; omega
    have h3 : sumCount l v = v := by
      have a := sumCount_le hd v
      have b := sumCount_ge (l := l) v (fun u a b => hall u a (by omega))
      omega
    rw [e, h3]; omega
end Go.Proofs.YtpandocpclecgaaGreatDoor.Q

set_option linter.unusedVariables false
set_option linter.unusedSimpArgs false
namespace Go.Proofs.YtpandocpclecgaaGreatDoor.Q
open Go.RowKit Go.Proofs.YtpandocpclecgaaGreatDoor.F Go.Proofs.YtpandocpclecgaaGreatDoorW.PrintWords Go.Proofs.YtpandocpclecgaaGreatDoorW.PrintLast Go.Proofs.YtpandocpclecgaaGreatDoorW.PrintMore
theorem rows_nat (l : List (List Int)) (i : Nat) : rd_L2 l (i : Int) = l.getD i [] := by unfold rd_L2; simp
theorem rows_eq (l : List (List Int)) (i : Nat) (h : i < l.length) : rd_L2 l (i : Int) = l[i] := by rw [rows_nat]; simp [h]
theorem take_rows (l : List (List Int)) (i : Nat) (h : i < l.length) : l.take (i + 1) = l.take i ++ [rd_L2 l (i : Int)] := by
  rw [rows_eq l i h]; exact List.take_succ_eq_append_getElem h
theorem rows_mem (l : List (List Int)) (i : Nat) (h : i < l.length) : rd_L2 l (i : Int) ∈ l := by rw [rows_eq l i h]; exact List.getElem_mem h
def isum : List Int → Int
  | [] => 0
  | x :: l => x + isum l
def bulk : List (List Int) → Nat
  | [] => 0
  | r :: m => r.length + bulk m
theorem isum_nonneg {l : List Int} (h : ∀ x ∈ l, 0 ≤ x) : 0 ≤ isum l := by
  induction l with
  | nil => exact Int.le_refl _
  | cons x l ih =>
    have h1 := h x (by simp)
    have h2 := ih (fun y hy => h y (by simp [hy]))
    unfold isum; omega
theorem bulk_mem {m : List (List Int)} {r : List Int} (h : r ∈ m) : r.length ≤ bulk m := by
  induction m with
  | nil => simp at h
  | cons q m ih =>
    unfold bulk
    rcases List.mem_cons.1 h with rfl | h
    · omega
    · have := ih h; omega
end Go.Proofs.YtpandocpclecgaaGreatDoor.Q

set_option linter.unusedVariables false
set_option linter.unusedSimpArgs false
namespace Go.Proofs.YtpandocpclecgaaGreatDoor.Q
open Go.RowKit Go.Proofs.YtpandocpclecgaaGreatDoor.F Go.Proofs.YtpandocpclecgaaGreatDoorW.PrintWords Go.Proofs.YtpandocpclecgaaGreatDoorW.PrintLast Go.Proofs.YtpandocpclecgaaGreatDoorW.PrintMore
theorem and_255 (E : Int) : 0 ≤ Go.bits .and .i64 E 255 ∧ Go.bits .and .i64 E 255 ≤ 255 := by
  have h : (BitVec.ofInt IntKind.i64.bits E &&& BitVec.ofInt IntKind.i64.bits 255).toNat ≤ 255 := by
    rw [BitVec.toNat_and]
    exact Nat.and_le_right
  simp only [Go.bits]
  rw [IntKind.wrap_i64]
  omega
def Cur (b : List Int) (i : Int) : Prop := b.length ≤ 1048576 ∧ 0 ≤ i ∧ i ≤ (b.length : Int)
theorem byte_ok {b : List Int} {i : Int} (h : Int) (hc : Cur b i) : ∃ x i' h', spec_l1Byte.f b i h = some (x, i', h') ∧ 0 ≤ x ∧ x ≤ 255 ∧ Cur b i' := by
  obtain ⟨h1, h2, h3⟩ := hc
  unfold spec_l1Byte.f
  by_cases hi : i < (b.length : Int)
  · rw [if_pos hi, if_pos h2]
    refine ⟨_, _, _, rfl, (and_255 _).1, (and_255 _).2, h1, ?_, ?_⟩ <;> rw [wrap_id (by omega) (by omega)] <;> omega
  · rw [if_neg hi]
    exact ⟨_, _, _, rfl, (and_255 _).1, (and_255 _).2, h1, h2, h3⟩
theorem below_ok {b : List Int} {i : Int} (h n : Int) (hc : Cur b i) (hn : n ≤ 256) : ∃ x i' h', spec_l1Below.f b i h n = some (x, i', h') ∧ 0 ≤ x ∧ (n ≤ 0 → x = 0) ∧ (0 < n → x < n) ∧ Cur b i' := by
  unfold spec_l1Below.f
  by_cases h0 : n ≤ 0
  · rw [if_pos h0]
    exact ⟨_, _, _, rfl, by omega, fun _ => rfl, fun h => by omega, hc⟩
  · obtain ⟨x, i', h', e, x0, x1, hc'⟩ := byte_ok h hc
    rw [if_neg h0, if_pos hn, e]
    simp only [Option.bind_some]
    rw [if_neg (by omega)]
    exact ⟨_, _, _, rfl, Int.tmod_nonneg n x0, fun h => by omega, fun h => Int.tmod_lt_of_pos x h, hc'⟩
theorem pick_ok {b : List Int} {i : Int} (h : Int) (list : List Int) (hc : Cur b i) (hl : 0 < list.length) (hl2 : list.length ≤ 256) : ∃ x i' h', spec_l1PickInt.f b i h list = some (x, i', h') ∧ x ∈ list ∧ Cur b i' := by
  obtain ⟨x, i', h', e, x0, _, x1, hc'⟩ := below_ok h (list.length : Int) hc (by omega)
  have := x1 (by omega)
  unfold spec_l1PickInt.f
  rw [e]
  simp only [Option.bind_some]
  rw [if_pos x0, if_pos this]
  obtain ⟨j, rfl⟩ : ∃ j : Nat, x = (j : Int) := ⟨x.toNat, by omega⟩
  exact ⟨_, _, _, rfl, rd_mem list j (by omega), hc'⟩
theorem once_ok {b : List Int} {i : Int} (h n : Int) (hc : Cur b i) (hn : n ≤ 256) : ∃ x i' h', spec_l1Once.f b i h n = some (x, i', h') ∧ Cur b i' := by
  obtain ⟨x, i', h', e, _, _, _, hc'⟩ := below_ok h n hc hn
  unfold spec_l1Once.f
  rw [e]
  exact ⟨_, _, _, rfl, hc'⟩
theorem new_ok (b : List Int) (hb : b.length ≤ 1048576) : ∃ h, Ev (fun k => spec_l1New.f k b) (b, 0, h) := by
  have key : ∀ i, i ≤ b.length → ∀ h : Int, ∃ h', Ev (fun k => spec_l1New.l0 k b h (i : Int)) (b, 0, h') := by
    refine downTo b.length ?_ ?_
    · intro h
      exact ⟨h, Ev.step (fun k => by rw [spec_l1New.l0]) (ev_neg (by omega) (ev_val rfl))⟩
    · intro i hi ih h
      by_cases h4 : (i : Int) < 4000
      · obtain ⟨h', e⟩ := ih (Go.bits .and .i64 (wrap64 ((wrap64 ((wrap64 (h * 131)) + (wrap64 (rd b (i : Int))))) + 7)) 1073741823)
        refine ⟨h', Ev.step (fun k => by rw [spec_l1New.l0]) (ev_pos (by omega) (ev_pos h4 (ev_pos (by omega) ?_)))⟩
        rw [wrap_succ (by omega)]
        exact e
      · exact ⟨h, Ev.step (fun k => by rw [spec_l1New.l0]) (ev_pos (by omega) (ev_neg h4 (ev_val rfl)))⟩
  obtain ⟨h, e⟩ := key 0 (by omega) (wrap64 (26583 + (b.length : Int)))
  exact ⟨h, by unfold spec_l1New.f; exact e⟩
theorem cur_start {b : List Int} (hb : b.length ≤ 1048576) : Cur b 0 := ⟨hb, by omega, by omega⟩
end Go.Proofs.YtpandocpclecgaaGreatDoor.Q

set_option linter.unusedVariables false
set_option linter.unusedSimpArgs false
namespace Go.Proofs.YtpandocpclecgaaGreatDoor.Q
open Go.RowKit Go.Proofs.YtpandocpclecgaaGreatDoor.F Go.Proofs.YtpandocpclecgaaGreatDoorW.PrintWords Go.Proofs.YtpandocpclecgaaGreatDoorW.PrintLast Go.Proofs.YtpandocpclecgaaGreatDoorW.PrintMore
theorem spec_l1In_eq (a b c : Int) : spec_l1In.f a b c = some (decide (b ≤ a ∧ a ≤ c)) := by
  unfold spec_l1In.f
  by_cases h : b ≤ a
  · rw [if_pos h]; simp [h]
  · rw [if_neg h]; simp [h]
end Go.Proofs.YtpandocpclecgaaGreatDoor.Q

set_option linter.unusedVariables false
set_option linter.unusedSimpArgs false
namespace Go.Proofs.YtpandocpclecgaaGreatDoor.Q
open Go.RowKit Go.Proofs.YtpandocpclecgaaGreatDoor.F Go.Proofs.YtpandocpclecgaaGreatDoorW.PrintWords Go.Proofs.YtpandocpclecgaaGreatDoorW.PrintLast Go.Proofs.YtpandocpclecgaaGreatDoorW.PrintMore
def at0 (l : List Int) (i : Int) : Int := if 0 ≤ i ∧ i < (l.length : Int) then rd l i else 0
theorem at0_nat (l : List Int) (i : Nat) (h : i < l.length) : at0 l (i : Int) = rd l (i : Int) := by unfold at0; rw [if_pos (by omega)]
theorem at0_out (l : List Int) (i : Int) (h : i < 0 ∨ (l.length : Int) ≤ i) : at0 l i = 0 := by unfold at0; rw [if_neg (by omega)]
theorem impl_within_eq (a b c : Int) : impl_within.f a b c = some (decide (b ≤ a ∧ a ≤ c)) := rfl
theorem impl_at_eq (l : List Int) (i : Int) (hl : l.length ≤ 1048576) : impl_at.f l i = some (at0 l i) := by
  unfold impl_at.f at0
  rw [wrap_id (by omega) (by omega), impl_within_eq]
  simp only [Option.bind_some]
  by_cases h : 0 ≤ i ∧ i < (l.length : Int)
  · rw [if_pos h, if_pos (by rw [decide_eq_true_eq]; omega), if_pos h.1, if_pos h.2]
  · rw [if_neg h, if_neg (by rw [decide_eq_true_eq]; omega)]
theorem spec_l2At_eq (l : List Int) (i : Int) : spec_l2At.f l i = some (at0 l i) := by
  unfold spec_l2At.f at0
  by_cases h1 : i < 0
  · rw [if_pos h1, if_neg (by omega)]
  · rw [if_neg h1]
    by_cases h2 : i ≥ (l.length : Int)
    · rw [if_pos h2, if_neg (by omega)]
    · rw [if_neg h2, if_pos (by omega), if_pos (by omega), if_pos (by omega)]
def partOk (prev s : Int) : List Int → Bool
  | [] => true
  | x :: l => decide (1 ≤ x ∧ x ≤ 9) && decide (x ≤ prev) && decide (s + x ≤ 9) && partOk x (s + x) l
def isPartition (l : List Int) : Bool := partOk 9 0 l
theorem partOk_sum {l : List Int} : ∀ {prev s : Int}, s ≤ 9 → partOk prev s l = true → s + isum l ≤ 9 ∧ s + l.length ≤ 9 ∧ ∀ x ∈ l, 1 ≤ x ∧ x ≤ 9 := by
  induction l with
  | nil => intro prev s h _; simp [isum, h]
  | cons x l ih =>
    intro prev s h hp
    simp only [partOk, Bool.and_eq_true, decide_eq_true_eq] at hp
    obtain ⟨⟨⟨h1, h2⟩, h3⟩, h4⟩ := hp
    obtain ⟨g1, g2, g3⟩ := ih h3 h4
    simp only [isum, List.length_cons]
    refine ⟨by omega, by omega, fun y hy => ?_⟩
    rcases List.mem_cons.1 hy with rfl | hy
    · exact h1
    · exact g3 y hy
theorem isPartition_bd {l : List Int} (h : isPartition l = true) : isum l ≤ 9 ∧ l.length ≤ 9 ∧ ∀ x ∈ l, 1 ≤ x ∧ x ≤ 9 := by
  obtain ⟨h1, h2, h3⟩ := partOk_sum (by omega) h
  exact ⟨by omega, by omega, h3⟩
theorem bool_not_t {X : Bool} (h : true = !X) : X = false := by cases X <;> simp_all
theorem bool_not_f {X : Bool} (h : false = !X) : X = true := by cases X <;> simp_all
def before (l : List Int) (i : Nat) : Int := match i with | 0 => 9 | i + 1 => rd l (i : Int)
theorem spec_IsPartition_ev (l : List Int) (hl : l.length ≤ 1048576) : Ev (fun k => spec_IsPartition.f k l) (isPartition l) := by
  have key : ∀ i, i ≤ l.length → ∀ s : Int, 0 ≤ s → s ≤ 9 → Ev (fun k => spec_IsPartition.l0 k l s (i : Int)) (partOk (before l i) s (l.drop i)) := by
    refine downTo l.length ?_ ?_
    · intro s a b
      refine Ev.step (fun k => by rw [spec_IsPartition.l0]) ?_
      exact ev_neg (by omega) (ev_val (by rw [List.drop_length]; rfl))
    · intro i hi ih s a b
      have hstep : ∀ c : Bool, (c = !(decide (1 ≤ rd l (i : Int) ∧ rd l (i : Int) ≤ 9) && decide (rd l (i : Int) ≤ before l i))) → Ev (fun k => spec_IsPartition.j1 k l s (i : Int) c) (partOk (before l i) s (l.drop i)) := by
        intro c hc
        refine Ev.step (fun k => by rw [spec_IsPartition.j1]) ?_
        rw [drop_rd l i hi]
        simp only [partOk]
        cases c with
        | true =>
          refine ev_pos rfl (ev_val ?_)
          have : (decide (1 ≤ rd l (i : Int) ∧ rd l (i : Int) ≤ 9) && decide (rd l (i : Int) ≤ before l i)) = false := bool_not_t hc
          rw [this]; rfl
        | false =>
          have hg : (decide (1 ≤ rd l (i : Int) ∧ rd l (i : Int) ≤ 9) && decide (rd l (i : Int) ≤ before l i)) = true := bool_not_f hc
          have h1 : 1 ≤ rd l (i : Int) ∧ rd l (i : Int) ≤ 9 := by simp only [Bool.and_eq_true, decide_eq_true_eq] at hg; exact hg.1
          rw [hg, Bool.true_and, wrap_id (i := s + rd l (i : Int)) (by omega) (by omega)]
          refine ev_neg (by simp) (ev_pos (by omega) (ev_pos (by omega) (ev_ite (fun h => ev_val ?_) (fun h => ?_))))
          · rw [decide_eq_false (by omega)]; rfl
          · rw [wrap_succ (by omega), decide_eq_true (by omega), Bool.true_and]
            exact ih _ (by omega) (by omega)
      refine Ev.step (fun k => by rw [spec_IsPartition.l0]) ?_
      refine ev_pos (by omega) (ev_pos (by omega) (ev_bindc (spec_l1In_eq _ _ _) (ev_ite (fun h => ?_) (fun h => ?_))))
      · cases i with
        | zero =>
          refine ev_neg (by omega) (hstep false ?_)
          rw [decide_eq_true_eq] at h
          have h' : rd l ((0 : Nat) : Int) ≤ before l 0 := by show _ ≤ (9 : Int); omega
          rw [decide_eq_true h, decide_eq_true h']; rfl
        | succ i =>
          have e : wrap64 (((i + 1 : Nat) : Int) - 1) = (i : Int) := by unfold wrap64; omega
          rw [e]
          refine ev_pos (by omega) (ev_pos (by omega) (ev_pos (by omega) (hstep _ ?_)))
          rw [h, Bool.true_and]
          show decide (rd l ((i + 1 : Nat) : Int) > rd l (i : Int)) = !decide (rd l ((i + 1 : Nat) : Int) ≤ rd l (i : Int))
          by_cases g : rd l ((i + 1 : Nat) : Int) ≤ rd l (i : Int)
          · rw [decide_eq_true g, decide_eq_false (by omega)]; rfl
          · rw [decide_eq_false g, decide_eq_true (by omega)]; rfl
      · refine hstep true ?_
        simp only [Bool.not_eq_true] at h
        rw [h]; rfl
  unfold spec_IsPartition.f isPartition
  have := key 0 (by omega) 0 (by omega) (by omega)
  rw [List.drop_zero] at this
  exact this
theorem impl_IsPartition_ev (l : List Int) (hl : l.length ≤ 1048576) : Ev (fun k => impl_IsPartition.f k l) (isPartition l) := by
  have key : ∀ i, i ≤ l.length → ∀ s : Int, 0 ≤ s → s ≤ 9 → Ev (fun k => impl_IsPartition.l0 k l s l (l.length : Int) (i : Int)) (partOk (before l i) s (l.drop i)) := by
    refine downTo l.length ?_ ?_
    · intro s a b
      refine Ev.step (fun k => by rw [impl_IsPartition.l0]) ?_
      exact ev_neg (by omega) (ev_val (by rw [List.drop_length]; rfl))
    · intro i hi ih s a b
      have hstep : ∀ c : Bool, (c = !(decide (1 ≤ rd l (i : Int) ∧ rd l (i : Int) ≤ 9) && decide (rd l (i : Int) ≤ before l i))) → Ev (fun k => impl_IsPartition.j1 k l s (rd l (i : Int)) l (l.length : Int) (i : Int) c) (partOk (before l i) s (l.drop i)) := by
        intro c hc
        refine Ev.step (fun k => by rw [impl_IsPartition.j1]) ?_
        rw [drop_rd l i hi]
        simp only [partOk]
        cases c with
        | true =>
          refine ev_pos rfl (ev_val ?_)
          have : (decide (1 ≤ rd l (i : Int) ∧ rd l (i : Int) ≤ 9) && decide (rd l (i : Int) ≤ before l i)) = false := bool_not_t hc
          rw [this]; rfl
        | false =>
          have hg : (decide (1 ≤ rd l (i : Int) ∧ rd l (i : Int) ≤ 9) && decide (rd l (i : Int) ≤ before l i)) = true := bool_not_f hc
          have h1 : 1 ≤ rd l (i : Int) ∧ rd l (i : Int) ≤ 9 := by simp only [Bool.and_eq_true, decide_eq_true_eq] at hg; exact hg.1
          rw [hg, Bool.true_and, wrap_id (i := s + rd l (i : Int)) (by omega) (by omega)]
          refine ev_neg (by simp) (ev_ite (fun h => ev_val ?_) (fun h => ?_))
          · rw [decide_eq_false (by omega)]; rfl
          · rw [wrap_succ (by omega), decide_eq_true (by omega), Bool.true_and]
            exact ih _ (by omega) (by omega)
      refine Ev.step (fun k => by rw [impl_IsPartition.l0]) ?_
      refine ev_pos (by omega) (ev_pos (by omega) (ev_pos (by omega) (ev_bindc (impl_within_eq _ _ _) (ev_ite (fun h => ?_) (fun h => ?_)))))
      · cases i with
        | zero =>
          refine ev_neg (by omega) (hstep false ?_)
          rw [decide_eq_true_eq] at h
          have h' : rd l ((0 : Nat) : Int) ≤ before l 0 := by show _ ≤ (9 : Int); omega
          rw [decide_eq_true h, decide_eq_true h']; rfl
        | succ i =>
          have e : wrap64 (((i + 1 : Nat) : Int) - 1) = (i : Int) := by unfold wrap64; omega
          rw [e]
          refine ev_pos (by omega) (ev_pos (by omega) (ev_pos (by omega) (hstep _ ?_)))
          rw [h, Bool.true_and]
          show decide (rd l ((i + 1 : Nat) : Int) > rd l (i : Int)) = !decide (rd l ((i + 1 : Nat) : Int) ≤ rd l (i : Int))
          by_cases g : rd l ((i + 1 : Nat) : Int) ≤ rd l (i : Int)
          · rw [decide_eq_true g, decide_eq_false (by omega)]; rfl
          · rw [decide_eq_false g, decide_eq_true (by omega)]; rfl
      · refine hstep true ?_
        simp only [Bool.not_eq_true] at h
        rw [h]; rfl
  unfold impl_IsPartition.f isPartition
  have := key 0 (by omega) 0 (by omega) (by omega)
  rw [List.drop_zero] at this
  exact this
end Go.Proofs.YtpandocpclecgaaGreatDoor.Q

set_option linter.unusedVariables false
set_option linter.unusedSimpArgs false
namespace Go.Proofs.YtpandocpclecgaaGreatDoor.Q
open Go.RowKit Go.Proofs.YtpandocpclecgaaGreatDoor.F Go.Proofs.YtpandocpclecgaaGreatDoorW.PrintWords Go.Proofs.YtpandocpclecgaaGreatDoorW.PrintLast Go.Proofs.YtpandocpclecgaaGreatDoorW.PrintMore
theorem isum_ge {l : List Int} (h : ∀ x ∈ l, 1 ≤ x) : 0 ≤ isum l := isum_nonneg (fun x hx => by have := h x hx; omega)
theorem partOk_iff : ∀ (l : List Int) (prev s : Int), s ≤ 9 → (partOk prev s l = true ↔ (∀ x ∈ l, 1 ≤ x ∧ x ≤ 9) ∧ (∀ x ∈ l.head?, x ≤ prev) ∧ l.Pairwise (fun a b => b ≤ a) ∧ s + isum l ≤ 9)
  | [], prev, s, hs => by simp [partOk, isum, hs]
  | x :: l, prev, s, hs => by
    simp only [partOk, Bool.and_eq_true, decide_eq_true_eq]
    constructor
    · rintro ⟨⟨⟨h1, h2⟩, h3⟩, h4⟩
      obtain ⟨g1, g2, g3, g4⟩ := (partOk_iff l x (s + x) h3).1 h4
      refine ⟨fun y hy => ?_, by simpa using h2, List.Pairwise.cons (fun y hy => ?_) g3, by simp only [isum]; omega⟩
      · rcases List.mem_cons.1 hy with rfl | hy
        · exact h1
        · exact g1 y hy
      · cases l with
        | nil => simp at hy
        | cons z l =>
          have hz : z ≤ x := g2 z (by simp)
          rcases List.mem_cons.1 hy with rfl | hy
          · exact hz
          · have := (List.pairwise_cons.1 g3).1 y hy; omega
    · rintro ⟨h1, h2, h3, h4⟩
      have hx := h1 x (by simp)
      have hl : ∀ y ∈ l, 1 ≤ y ∧ y ≤ 9 := fun y hy => h1 y (by simp [hy])
      have h0 := isum_ge (fun y hy => (hl y hy).1)
      simp only [isum] at h4
      refine ⟨⟨⟨hx, h2 x (by simp)⟩, by omega⟩, (partOk_iff l x (s + x) (by omega)).2 ⟨hl, fun y hy => ?_, (List.pairwise_cons.1 h3).2, by omega⟩⟩
      exact (List.pairwise_cons.1 h3).1 y (List.mem_of_mem_head? hy)
theorem isum_mem_le {l : List Int} (h : ∀ x ∈ l, 1 ≤ x) : ∀ x ∈ l, x ≤ isum l := by
  induction l with
  | nil => simp
  | cons y l ih =>
    intro x hx
    have h0 := isum_ge (fun z hz => h z (List.mem_cons_of_mem _ hz))
    have hy := h y (by simp)
    simp only [isum]
    rcases List.mem_cons.1 hx with rfl | hx
    · omega
    · have := ih (fun z hz => h z (List.mem_cons_of_mem _ hz)) x hx; omega
theorem isPartition_iff {l : List Int} : isPartition l = true ↔ (∀ x ∈ l, 1 ≤ x) ∧ l.Pairwise (fun a b => b ≤ a) ∧ isum l ≤ 9 := by
  unfold isPartition
  rw [partOk_iff l 9 0 (by omega)]
  constructor
  · rintro ⟨h1, _, h3, h4⟩
    exact ⟨fun x hx => (h1 x hx).1, h3, by omega⟩
  · rintro ⟨h1, h2, h3⟩
    have h9 : ∀ x ∈ l, 1 ≤ x ∧ x ≤ 9 := fun x hx => ⟨h1 x hx, by have := isum_mem_le h1 x hx; omega⟩
    exact ⟨h9, fun x hx => (h9 x (List.mem_of_mem_head? hx)).2, h2, by omega⟩
end Go.Proofs.YtpandocpclecgaaGreatDoor.Q

set_option linter.unusedVariables false
set_option linter.unusedSimpArgs false
namespace Go.Proofs.YtpandocpclecgaaGreatDoor.Q
open Go.RowKit Go.Proofs.YtpandocpclecgaaGreatDoor.F Go.Proofs.YtpandocpclecgaaGreatDoorW.PrintWords Go.Proofs.YtpandocpclecgaaGreatDoorW.PrintLast Go.Proofs.YtpandocpclecgaaGreatDoorW.PrintMore
def downFrom : Nat → List Nat
  | 0 => []
  | k + 1 => (k + 1) :: downFrom k
def partsF : Nat → Nat → Nat → List (List Int)
  | 0, _, _ => [[]]
  | f + 1, n, m => if n = 0 then [[]] else (downFrom (min n m)).flatMap fun k => (partsF f (n - k) k).map (fun p => ((k : Nat) : Int) :: p)
theorem downFrom_mem {k j : Nat} : j ∈ downFrom k ↔ 1 ≤ j ∧ j ≤ k := by
  induction k with
  | zero => simp [downFrom]; omega
  | succ k ih => simp only [downFrom, List.mem_cons, ih]; omega
theorem flatMap_len {α β : Type} (g : α → List β) (B : Nat) : ∀ (l : List α), (∀ x ∈ l, (g x).length ≤ B) → (l.flatMap g).length ≤ l.length * B
  | [], _ => by simp
  | x :: l, h => by
    have h1 := h x (by simp)
    have h2 := flatMap_len g B l (fun y hy => h y (by simp [hy]))
    rw [List.flatMap_cons, List.length_append, List.length_cons, Nat.add_mul]
    omega
theorem downFrom_length (k : Nat) : (downFrom k).length = k := by
  induction k with
  | zero => rfl
  | succ k ih => simp [downFrom, ih]
theorem partsF_len : ∀ (f n m : Nat), n ≤ 9 → (partsF f n m).length ≤ 9 ^ f
  | 0, n, m, _ => by simp [partsF]
  | f + 1, n, m, h => by
    simp only [partsF]
    by_cases h0 : n = 0
    · rw [if_pos h0]
      have : 0 < 9 ^ (f + 1) := Nat.pow_pos (by decide)
      simp only [List.length_cons, List.length_nil]
      omega
    · rw [if_neg h0]
      have h1 := flatMap_len (fun k => (partsF f (n - k) k).map (fun p => ((k : Nat) : Int) :: p)) (9 ^ f) (downFrom (min n m)) (fun k _ => by rw [List.length_map]; exact partsF_len f (n - k) k (by omega))
      rw [downFrom_length] at h1
      have h2 : min n m * 9 ^ f ≤ 9 * 9 ^ f := Nat.mul_le_mul_right _ (by omega)
      rw [Nat.pow_succ, Nat.mul_comm (9 ^ f) 9]
      omega
theorem partsF_mem : ∀ (f n m : Nat), n ≤ f → ∀ p ∈ partsF f n m, (∀ x ∈ p, 1 ≤ x ∧ x ≤ (m : Int)) ∧ p.Pairwise (fun a b => b ≤ a) ∧ isum p = (n : Int)
  | 0, n, m, h, p, hp => by
    obtain rfl : p = [] := by simpa [partsF] using hp
    obtain rfl : n = 0 := by omega
    exact ⟨by simp, List.Pairwise.nil, rfl⟩
  | f + 1, n, m, h, p, hp => by
    simp only [partsF] at hp
    by_cases h0 : n = 0
    · rw [if_pos h0] at hp
      obtain rfl : p = [] := by simpa using hp
      exact ⟨by simp, List.Pairwise.nil, by rw [h0]; rfl⟩
    · rw [if_neg h0] at hp
      obtain ⟨k, hk, hp⟩ := List.mem_flatMap.1 hp
      obtain ⟨q, hq, rfl⟩ := List.mem_map.1 hp
      have hk := downFrom_mem.1 hk
      obtain ⟨h1, h2, h3⟩ := partsF_mem f (n - k) k (by omega) q hq
      refine ⟨fun x hx => ?_, List.pairwise_cons.2 ⟨fun x hx => (h1 x hx).2, h2⟩, ?_⟩
      · rcases List.mem_cons.1 hx with rfl | hx
        · omega
        · have := h1 x hx; omega
      · simp only [isum]
        omega
theorem partsF_all : ∀ (f n m : Nat) (p : List Int), n ≤ f → (∀ x ∈ p, 1 ≤ x ∧ x ≤ (m : Int)) → p.Pairwise (fun a b => b ≤ a) → isum p = (n : Int) → p ∈ partsF f n m
  | 0, n, m, p, h, h1, h2, h3 => by
    cases p with
    | nil => simp [partsF]
    | cons x p =>
      have h4 := isum_ge (l := p) (fun y hy => (h1 y (by simp [hy])).1)
      have := (h1 x (by simp)).1
      simp only [isum] at h3
      omega
  | f + 1, n, m, p, h, h1, h2, h3 => by
    simp only [partsF]
    cases p with
    | nil =>
      simp only [isum] at h3
      rw [if_pos (by omega)]
      simp
    | cons x p =>
      have h4 := isum_ge (l := p) (fun y hy => (h1 y (by simp [hy])).1)
      have h5 := h1 x (by simp)
      simp only [isum] at h3
      rw [if_neg (by omega)]
      obtain ⟨k, rfl⟩ : ∃ k : Nat, x = (k : Int) := ⟨x.toNat, by omega⟩
      obtain ⟨p1, p2⟩ := List.pairwise_cons.1 h2
      refine List.mem_flatMap.2 ⟨k, downFrom_mem.2 ⟨by omega, by omega⟩, List.mem_map.2 ⟨p, partsF_all f (n - k) k p (by omega) (fun y hy => ⟨(h1 y (by simp [hy])).1, p1 y hy⟩) p2 (by omega), rfl⟩⟩
theorem partsF_row {f n m : Nat} (h : n ≤ f) (hn : n ≤ 9) : ∀ p ∈ partsF f n m, p.length ≤ 9 := fun p hp => by
  obtain ⟨h1, h2, h3⟩ := partsF_mem f n m h p hp
  exact (isPartition_bd (isPartition_iff.2 ⟨fun x hx => (h1 x hx).1, h2, by omega⟩)).2.1
def partsG (f n : Nat) (k : Nat) : List (List Int) := (partsF f (n - k) k).map (fun p => ((k : Nat) : Int) :: p)
theorem partsG_len {f n : Nat} (k : Nat) (hf : f ≤ 8) (hn : n ≤ 9) : (partsG f n k).length ≤ 43046721 := by
  unfold partsG
  rw [List.length_map]
  have h1 := partsF_len f (n - k) k (by omega)
  have h2 : 9 ^ f ≤ 9 ^ 8 := Nat.pow_le_pow_right (by decide) hf
  have h3 : (9 : Nat) ^ 8 = 43046721 := by decide
  omega
theorem l2All_ev : ∀ (f n m : Nat), n ≤ f → f ≤ 9 → n ≤ 9 → m ≤ 9 → Ev (fun k => spec_l2All.f k (n : Int) (m : Int)) (partsF f n m)
  | 0, n, m, h, _, _, _ => by
    obtain rfl : n = 0 := by omega
    refine Ev.step (fun k => by rw [spec_l2All.f]) ?_
    exact ev_bindc rfl (ev_pos rfl (ev_pos (by simp) (ev_val rfl)))
  | f + 1, n, m, h, hf, hn, hm => by
    refine Ev.step (fun k => by rw [spec_l2All.f]) (ev_bindc rfl ?_)
    by_cases h0 : n = 0
    · subst h0
      exact ev_pos rfl (ev_pos (by simp) (ev_val (by simp [partsF])))
    · refine ev_neg (by omega) (ev_bindc (b := ((min n m : Nat) : Int)) ?_ ?_)
      · unfold spec_l1Min.f
        by_cases hlt : (n : Int) < (m : Int)
        · rw [if_pos hlt, Nat.min_eq_left (by omega)]
        · rw [if_neg hlt, Nat.min_eq_right (by omega)]
      · have key : ∀ (k : Nat) (acc : List (List Int)), k ≤ n → k ≤ m → acc.length + k * 43046721 ≤ 400000000 → Ev (fun q => spec_l2All.l0 q (n : Int) acc (k : Int)) (acc ++ (downFrom k).flatMap (partsG f n)) := by
          intro k
          induction k with
          | zero =>
            intro acc _ _ _
            exact Ev.step (fun q => by rw [spec_l2All.l0]) (ev_neg (by omega) (ev_val (by simp [downFrom])))
          | succ k ih =>
            intro acc h1 h2 h3
            have hIH := l2All_ev f (n - (k + 1)) (k + 1) (by omega) (by omega) (by omega) (by omega)
            have hGl := partsG_len (f := f) (n := n) (k + 1) (by omega) hn
            have hrow := partsF_row (f := f) (n := n - (k + 1)) (m := k + 1) (by omega) (by omega)
            have hGe : partsG f n (k + 1) = (partsF f (n - (k + 1)) (k + 1)).map (fun p => ((k + 1 : Nat) : Int) :: p) := rfl
            rw [hGe, List.length_map] at hGl
            obtain ⟨X, hX⟩ : ∃ X, partsF f (n - (k + 1)) (k + 1) = X := ⟨_, rfl⟩
            rw [hX] at hIH hGl hrow hGe
            refine Ev.step (fun q => by rw [spec_l2All.l0]) (ev_pos (by omega) ?_)
            have ew : wrap64 ((n : Int) - ((k + 1 : Nat) : Int)) = ((n - (k + 1) : Nat) : Int) := by rw [wrap_id (by omega) (by omega)]; omega
            rw [ew]
            refine Ev.bind hIH ?_
            have inner : ∀ d i : Nat, i + d = X.length → Ev (fun q => spec_l2All.l1 q (n : Int) (acc ++ (X.take i).map (fun p => ((k + 1 : Nat) : Int) :: p)) ((k + 1 : Nat) : Int) X (i : Int)) (acc ++ (downFrom (k + 1)).flatMap (partsG f n)) := by
              intro d
              induction d with
              | zero =>
                intro i hi
                obtain rfl : i = X.length := by omega
                refine Ev.step (fun q => by rw [spec_l2All.l1]) (ev_neg (by omega) ?_)
                have e1 : wrap64 (((k + 1 : Nat) : Int) - 1) = (k : Int) := by rw [wrap_id (by omega) (by omega)]; omega
                have h5 := ih (acc ++ X.map (fun p => ((k + 1 : Nat) : Int) :: p)) (by omega) (by omega) (by rw [List.length_append, List.length_map]; omega)
                rw [e1, List.take_length]
                refine ev_eq h5 ?_
                simp only [downFrom]
                rw [List.flatMap_cons, hGe, List.append_assoc]
              | succ d ihd =>
                intro i hi
                have hil : i < X.length := by omega
                have h9 := hrow _ (rows_mem X i hil)
                refine Ev.step (fun q => by rw [spec_l2All.l1]) (ev_pos (by omega) ?_)
                refine ev_bindc rfl ?_
                refine ev_pos (by omega) (ev_pos (by simp only [List.length_cons, List.length_nil]; omega) (ev_pos (by rw [List.length_append, List.length_map, List.length_take]; omega) ?_))
                rw [wrap_succ (by omega)]
                have h5 := ihd (i + 1) (by omega)
                rw [take_rows X i hil, List.map_append, ← List.append_assoc] at h5
                exact h5
            have h6 := inner X.length 0 (by omega)
            rw [List.take_zero, List.map_nil, List.append_nil] at h6
            exact h6
        have h7 := key (min n m) [] (by omega) (by omega) (by simp only [List.length_nil]; omega)
        refine ev_eq h7 ?_
        simp only [partsF]
        rw [if_neg h0]
        rfl
theorem isum_ones (n : Nat) : isum (List.replicate n 1) = (n : Int) := by
  induction n with
  | zero => rfl
  | succ n ih => simp only [List.replicate_succ, isum, ih]; omega
theorem partsF_pos {f n m : Nat} (h : n ≤ f) (hm : 1 ≤ m) : 0 < (partsF f n m).length :=
  List.length_pos_of_mem (partsF_all f n m (List.replicate n 1) h (fun x hx => by have := (List.mem_replicate.1 hx).2; omega) (List.pairwise_replicate.2 (.inr (Int.le_refl 1))) (isum_ones n))
end Go.Proofs.YtpandocpclecgaaGreatDoor.Q

set_option linter.unusedVariables false
set_option linter.unusedSimpArgs false
namespace Go.Proofs.YtpandocpclecgaaGreatDoor.Q
open Go.RowKit Go.Proofs.YtpandocpclecgaaGreatDoor.F Go.Proofs.YtpandocpclecgaaGreatDoorW.PrintWords Go.Proofs.YtpandocpclecgaaGreatDoorW.PrintLast Go.Proofs.YtpandocpclecgaaGreatDoorW.PrintMore
def isInside (q p : List Int) : Bool := isPartition q && isPartition p && (List.range q.length).all (fun i => decide (rd q (i : Int) ≤ at0 p (i : Int)))
theorem inside_all (q p : List Int) (i : Nat) : ((List.range q.length).all (fun i => decide (rd q (i : Int) ≤ at0 p (i : Int))) = true) ↔ ∀ j, j < q.length → rd q (j : Int) ≤ at0 p (j : Int) := by
  rw [List.all_eq_true]
  constructor
  · intro h j hj; have := h j (List.mem_range.2 hj); simpa using this
  · intro h j hj; simpa using h j (List.mem_range.1 hj)
theorem isInside_len {q p : List Int} (h : isInside q p = true) : isPartition q = true ∧ isPartition p = true ∧ q.length ≤ p.length ∧ ∀ j, j < q.length → rd q (j : Int) ≤ rd p (j : Int) := by
  unfold isInside at h
  simp only [Bool.and_eq_true] at h
  obtain ⟨⟨h1, h2⟩, h3⟩ := h
  rw [inside_all q p 0] at h3
  have hb := (isPartition_bd h1).2.2
  have hlen : q.length ≤ p.length := by
    apply Classical.byContradiction
    intro hn
    have := h3 p.length (by omega)
    rw [at0_out _ _ (.inr (by omega))] at this
    have := (hb _ (rd_mem q p.length (by omega))).1
    omega
  refine ⟨h1, h2, hlen, fun j hj => ?_⟩
  have := h3 j hj
  rwa [at0_nat p j (by omega)] at this
theorem impl_IsInside_ev (q p : List Int) (hq : q.length ≤ 1048576) (hp : p.length ≤ 1048576) : Ev (fun k => impl_IsInside.f k q p) (isInside q p) := by
  unfold impl_IsInside.f isInside
  refine Ev.bind (impl_IsPartition_ev q hq) (ev_ite (fun h1 => ?_) (fun h1 => ?_))
  · refine Ev.bind (impl_IsPartition_ev p hp) (Ev.step (fun k => by rw [impl_IsInside.j0]) ?_)
    rw [h1, Bool.true_and]
    by_cases h2 : isPartition p = true
    · rw [h2, Bool.true_and]
      refine ev_neg (by simp) ?_
      have key : ∀ i, i ≤ q.length → ∃ b, Ev (fun k => impl_IsInside.l0 k p q (q.length : Int) (i : Int)) b ∧ (b = true ↔ ∀ j, i ≤ j → j < q.length → rd q (j : Int) ≤ at0 p (j : Int)) := by
        refine downTo q.length ?_ ?_
        · refine ⟨true, ?_, by simp; intro j a b; omega⟩
          refine Ev.step (fun k => by rw [impl_IsInside.l0]) ?_
          exact ev_neg (by omega) (ev_val rfl)
        · rintro i hi ⟨b, hb, hiff⟩
          by_cases hc : rd q (i : Int) > at0 p (i : Int)
          · refine ⟨false, ?_, ?_⟩
            · refine Ev.step (fun k => by rw [impl_IsInside.l0]) ?_
              exact ev_pos (by omega) (ev_pos (by omega) (ev_pos (by omega) (ev_bindc (impl_at_eq p _ hp) (ev_pos hc (ev_val rfl)))))
            · constructor
              · intro h; cases h
              · intro h; have := h i (Nat.le_refl _) hi; omega
          · refine ⟨b, ?_, ?_⟩
            · refine Ev.step (fun k => by rw [impl_IsInside.l0]) ?_
              refine ev_pos (by omega) (ev_pos (by omega) (ev_pos (by omega) (ev_bindc (impl_at_eq p _ hp) (ev_neg hc ?_))))
              rw [wrap_succ (by omega)]; exact hb
            · rw [hiff]
              constructor
              · intro h j a c
                by_cases e : j = i
                · subst e; omega
                · exact h j (by omega) c
              · intro h j a c; exact h j (by omega) c
      obtain ⟨b, hb, hiff⟩ := key 0 (by omega)
      refine ev_eq hb ?_
      rw [Bool.eq_iff_iff, hiff, inside_all q p 0]
      exact ⟨fun h j hj => h j (by omega) hj, fun h j _ hj => h j hj⟩
    · simp only [Bool.not_eq_true] at h2
      rw [h2]
      exact ev_pos rfl (ev_val rfl)
  · simp only [Bool.not_eq_true] at h1
    rw [h1]
    refine Ev.step (fun k => by rw [impl_IsInside.j0]) ?_; exact ev_pos rfl (ev_val rfl)
theorem spec_IsInside_ev (q p : List Int) (hq : q.length ≤ 1048576) (hp : p.length ≤ 1048576) : Ev (fun k => spec_IsInside.f k q p) (isInside q p) := by
  unfold spec_IsInside.f isInside
  refine Ev.bind (spec_IsPartition_ev q hq) (ev_ite (fun h1 => ?_) (fun h1 => ?_))
  · refine Ev.bind (spec_IsPartition_ev p hp) (ev_ite (fun h2 => ?_) (fun h2 => ?_))
    · rw [h1, h2, Bool.true_and, Bool.true_and]
      refine Ev.step (fun k => by rw [spec_IsInside.j0]) ?_
      have hb := (isPartition_bd h1).2.2
      by_cases hl : (q.length : Int) > (p.length : Int)
      · refine ev_pos (decide_eq_true hl) (ev_val ?_)
        symm
        rw [Bool.eq_false_iff]
        intro h
        rw [inside_all q p 0] at h
        have := h p.length (by omega)
        rw [at0_out _ _ (.inr (by omega))] at this
        have := (hb _ (rd_mem q p.length (by omega))).1
        omega
      · refine ev_neg (by simpa using hl) ?_
        have key : ∀ i, i ≤ q.length → ∃ b, Ev (fun k => spec_IsInside.l0 k q p (i : Int)) b ∧ (b = true ↔ ∀ j, i ≤ j → j < q.length → rd q (j : Int) ≤ at0 p (j : Int)) := by
          refine downTo q.length ?_ ?_
          · refine ⟨true, ?_, by simp; intro j a b; omega⟩
            refine Ev.step (fun k => by rw [spec_IsInside.l0]) ?_
            exact ev_neg (by omega) (ev_val rfl)
          · rintro i hi ⟨b, hb, hiff⟩
            have ea := at0_nat p i (by omega)
            by_cases hc : rd q (i : Int) > rd p (i : Int)
            · refine ⟨false, ?_, ?_⟩
              · refine Ev.step (fun k => by rw [spec_IsInside.l0]) ?_
                exact ev_pos (by omega) (ev_pos (by omega) (ev_pos (by omega) (ev_pos hc (ev_val rfl))))
              · constructor
                · intro h; cases h
                · intro h; have := h i (Nat.le_refl _) hi; omega
            · refine ⟨b, ?_, ?_⟩
              · refine Ev.step (fun k => by rw [spec_IsInside.l0]) ?_
                refine ev_pos (by omega) (ev_pos (by omega) (ev_pos (by omega) (ev_neg hc ?_)))
                rw [wrap_succ (by omega)]; exact hb
              · rw [hiff]
                constructor
                · intro h j a c
                  by_cases e : j = i
                  · subst e; omega
                  · exact h j (by omega) c
                · intro h j a c; exact h j (by omega) c
        obtain ⟨b, hb, hiff⟩ := key 0 (by omega)
        refine ev_eq hb ?_
        rw [Bool.eq_iff_iff, hiff, inside_all q p 0]
        exact ⟨fun h j hj => h j (by omega) hj, fun h j _ hj => h j hj⟩
    · simp only [Bool.not_eq_true] at h2
      rw [h1, h2]
      refine Ev.step (fun k => by rw [spec_IsInside.j0]) ?_; exact ev_pos rfl (ev_val rfl)
  · simp only [Bool.not_eq_true] at h1
    rw [h1]
    refine Ev.step (fun k => by rw [spec_IsInside.j0]) ?_; exact ev_pos rfl (ev_val rfl)
theorem impl_IsShape_ev (o n : List Int) (ho : o.length ≤ 1048576) (hn : n.length ≤ 1048576) : Ev (fun k => impl_IsShape.f k o n) (isInside n o) := by
  unfold impl_IsShape.f
  exact Ev.bind (impl_IsInside_ev n o hn ho) (ev_val rfl)
theorem spec_IsShape_ev (o n : List Int) (ho : o.length ≤ 1048576) (hn : n.length ≤ 1048576) : Ev (fun k => spec_IsShape.f k o n) (isInside n o) := by
  unfold spec_IsShape.f
  exact Ev.bind (spec_IsInside_ev n o hn ho) (ev_val rfl)
end Go.Proofs.YtpandocpclecgaaGreatDoor.Q

set_option linter.unusedVariables false
set_option linter.unusedSimpArgs false
namespace Go.Proofs.YtpandocpclecgaaGreatDoor.Q
open Go.RowKit Go.Proofs.YtpandocpclecgaaGreatDoor.F Go.Proofs.YtpandocpclecgaaGreatDoorW.PrintWords Go.Proofs.YtpandocpclecgaaGreatDoorW.PrintLast Go.Proofs.YtpandocpclecgaaGreatDoorW.PrintMore
def reachOf (n : List Int) (m : List (List Int)) (i : Nat) : Int := at0 n (i : Int) + ((rd_L2 m (i : Int)).length : Int)
def outerOf (n : List Int) (m : List (List Int)) : List Int := (List.range m.length).map (reachOf n m)
def hasShape (n : List Int) (m : List (List Int)) : Bool := isPartition n && decide (n.length ≤ m.length) && isInside n (outerOf n m)
def shapeOf (n : List Int) (m : List (List Int)) : List Int × List Int × Bool := if hasShape n m then (outerOf n m, n, true) else ([], [], false)
theorem outerOf_length (n : List Int) (m : List (List Int)) : (outerOf n m).length = m.length := by simp [outerOf]
theorem outerOf_rd (n : List Int) (m : List (List Int)) (i : Nat) (h : i < m.length) : rd (outerOf n m) (i : Int) = at0 n (i : Int) + ((rd_L2 m (i : Int)).length : Int) := by
  rw [rd_eq _ i (by rw [outerOf_length]; exact h)]
  simp [outerOf, reachOf]
theorem at0_bd {n : List Int} (h : isPartition n = true) (i : Int) : 0 ≤ at0 n i ∧ at0 n i ≤ 9 := by
  have hb := (isPartition_bd h).2.2
  unfold at0
  split
  · rename_i hi
    obtain ⟨j, rfl⟩ : ∃ j : Nat, i = (j : Int) := ⟨i.toNat, by omega⟩
    have := hb _ (rd_mem n j (by omega))
    omega
  · omega
theorem hasShape_bd {n : List Int} {m : List (List Int)} (h : hasShape n m = true) : isPartition n = true ∧ n.length ≤ m.length ∧ m.length ≤ 9 ∧ isPartition (outerOf n m) = true ∧ (∀ i, i < m.length → 1 ≤ at0 n (i : Int) + ((rd_L2 m (i : Int)).length : Int) ∧ at0 n (i : Int) + ((rd_L2 m (i : Int)).length : Int) ≤ 9) := by
  unfold hasShape at h
  simp only [Bool.and_eq_true, decide_eq_true_eq] at h
  obtain ⟨⟨h1, h2⟩, h3⟩ := h
  obtain ⟨_, h4, _, _⟩ := isInside_len h3
  obtain ⟨_, g2, g3⟩ := isPartition_bd h4
  rw [outerOf_length] at g2
  refine ⟨h1, h2, g2, h4, fun i hi => ?_⟩
  have := g3 _ (rd_mem (outerOf n m) i (by rw [outerOf_length]; exact hi))
  rw [outerOf_rd n m i hi] at this
  exact this
theorem range_snoc' (n : List Int) (m : List (List Int)) (i : Nat) : (List.range (i + 1)).map (reachOf n m) = (List.range i).map (reachOf n m) ++ [reachOf n m i] := by simp [List.range_succ]
theorem impl_ShapeOf_ev (n : List Int) (m : List (List Int)) (hn : n.length ≤ 1048576) (hm : m.length ≤ 1048576) (hr : ∀ r ∈ m, r.length ≤ 1048576) : Ev (fun k => impl_ShapeOf.f k n m) (shapeOf n m) := by
  unfold impl_ShapeOf.f
  refine Ev.bind (impl_IsPartition_ev n hn) (ev_ite (fun h1 => ?_) (fun h1 => ?_))
  · refine Ev.step (fun k => by rw [impl_ShapeOf.j0]) ?_
    by_cases h2 : n.length ≤ m.length
    · refine ev_neg (by simpa using h2) (ev_bindc (b := n) (by unfold slices_Clone_int_int.f; rw [if_pos (by omega)]) ?_)
      have key : ∀ i, i ≤ m.length → Ev (fun k => impl_ShapeOf.l0 k m (m.length : Int) (i : Int) n m ((List.range i).map (reachOf n m)) n) (shapeOf n m) := by
        refine downTo m.length ?_ ?_
        · refine Ev.step (fun k => by rw [impl_ShapeOf.l0]) ?_
          refine ev_neg (by omega) (Ev.bind (impl_IsShape_ev (outerOf n m) n (by rw [outerOf_length]; omega) hn) (ev_ite (fun h3 => ?_) (fun h3 => ?_)))
          · refine ev_val ?_
            unfold shapeOf hasShape
            rw [h1, h3, decide_eq_true h2]; rfl
          · simp only [Bool.not_eq_true] at h3
            refine ev_val ?_
            unfold shapeOf hasShape
            rw [h3, Bool.and_false]; rfl
        · intro i hi ih
          have hb := at0_bd h1 (i : Int)
          have hl := hr _ (rows_mem m i hi)
          refine Ev.step (fun k => by rw [impl_ShapeOf.l0]) ?_
          refine ev_pos (by omega) (ev_pos (by omega) (ev_pos (by omega) (ev_bindc (impl_at_eq n _ hn) (ev_pos (by simp; omega) ?_))))
          rw [wrap_succ (by omega), wrap_id (by omega) (by omega)]
          rw [range_snoc', reachOf] at ih
          exact ih
      exact key 0 (by omega)
    · refine ev_pos (by simpa using h2) (ev_val ?_)
      unfold shapeOf hasShape
      rw [decide_eq_false h2, Bool.and_false]; rfl
  · simp only [Bool.not_eq_true] at h1
    refine Ev.step (fun k => by rw [impl_ShapeOf.j0]) ?_
    refine ev_pos rfl (ev_val ?_)
    unfold shapeOf hasShape
    rw [h1]; rfl
theorem spec_ShapeOf_ev (n : List Int) (m : List (List Int)) (hn : n.length ≤ 1048576) (hm : m.length ≤ 1048576) (hr : ∀ r ∈ m, r.length ≤ 1048576) : Ev (fun k => spec_ShapeOf.f k n m) (shapeOf n m) := by
  have hfalse : ∀ c : Bool, c = true → shapeOf n m = ([], [], false) → Ev (fun k => spec_ShapeOf.j0 k c n m n) (shapeOf n m) := by
    intro c hc hs
    refine Ev.step (fun k => by rw [spec_ShapeOf.j0]) ?_
    exact ev_pos hc (ev_val hs.symm)
  unfold spec_ShapeOf.f
  refine ev_bindc rfl (ev_pos (by simp; omega) (ev_bindc (b := n) (by simp) (Ev.bind (spec_IsPartition_ev n hn) (ev_ite (fun h1 => ev_ite (fun h2 => ?_) (fun h2 => ?_)) (fun h1 => ?_)))))
  · refine hfalse true rfl ?_
    unfold shapeOf hasShape
    rw [decide_eq_false (by omega), Bool.and_false]; rfl
  · by_cases h9 : (m.length : Int) > 9
    · refine hfalse _ (decide_eq_true h9) ?_
      unfold shapeOf
      rw [if_neg]
      intro h
      have := (hasShape_bd h).2.2.1
      omega
    · refine Ev.step (fun k => by rw [spec_ShapeOf.j0]) ?_
      refine ev_neg (by simpa using h9) ?_
      have key : ∀ i, i ≤ m.length → Ev (fun k => spec_ShapeOf.l0 k (i : Int) n m ((List.range i).map (reachOf n m)) n) (shapeOf n m) := by
        refine downTo m.length ?_ ?_
        · refine Ev.step (fun k => by rw [spec_ShapeOf.l0]) ?_
          refine ev_neg (by omega) (Ev.bind (spec_IsShape_ev (outerOf n m) n (by rw [outerOf_length]; omega) hn) (ev_ite (fun h3 => ?_) (fun h3 => ?_)))
          · refine ev_val ?_
            unfold shapeOf hasShape
            rw [h1, h3, decide_eq_true (show n.length ≤ m.length by omega)]; rfl
          · simp only [Bool.not_eq_true] at h3
            refine ev_val ?_
            unfold shapeOf hasShape
            rw [h3, Bool.and_false]; rfl
        · intro i hi ih
          have hb := at0_bd h1 (i : Int)
          have hl := hr _ (rows_mem m i hi)
          refine Ev.step (fun k => by rw [spec_ShapeOf.l0]) ?_
          refine ev_pos (by omega) (ev_bindc (spec_l2At_eq n _) (ev_pos (by omega) (ev_pos (by simp; omega) ?_)))
          rw [wrap_succ (by omega), wrap_id (by omega) (by omega)]
          rw [range_snoc', reachOf] at ih
          exact ih
      exact key 0 (by omega)
  · simp only [Bool.not_eq_true] at h1
    refine hfalse true rfl ?_
    unfold shapeOf hasShape
    rw [h1]; rfl
end Go.Proofs.YtpandocpclecgaaGreatDoor.Q

set_option linter.unusedVariables false
set_option linter.unusedSimpArgs false
namespace Go.Proofs.YtpandocpclecgaaGreatDoor.Q
open Go.RowKit Go.Proofs.YtpandocpclecgaaGreatDoor.F Go.Proofs.YtpandocpclecgaaGreatDoorW.PrintWords Go.Proofs.YtpandocpclecgaaGreatDoorW.PrintLast Go.Proofs.YtpandocpclecgaaGreatDoorW.PrintMore
def entryOf (n : List Int) (m : List (List Int)) (r c : Int) : Int := if 0 ≤ r ∧ r < (m.length : Int) then at0 (rd_L2 m r) (c - at0 n r) else 0
theorem impl_entry_eq (n : List Int) (m : List (List Int)) (r c : Int) (h1 : isPartition n = true) (hm : m.length ≤ 1048576) (hr : ∀ q ∈ m, q.length ≤ 1048576) (hc : -1000 ≤ c) (hc2 : c ≤ 2097152) : impl_Tableau_entry.f n m r c = some (entryOf n m r c) := by
  have hn := (isPartition_bd h1).2.1
  have hb := at0_bd h1 r
  unfold impl_Tableau_entry.f entryOf
  rw [wrap_id (by omega) (by omega), impl_within_eq]
  simp only [Option.bind_some]
  by_cases h : 0 ≤ r ∧ r < (m.length : Int)
  · obtain ⟨j, rfl⟩ : ∃ j : Nat, r = (j : Int) := ⟨r.toNat, by omega⟩
    rw [if_pos h, if_pos (by rw [decide_eq_true_eq]; omega), if_pos h.1, if_pos h.2, impl_at_eq n _ (by omega)]
    simp only [Option.bind_some]
    rw [wrap_id (by omega) (by omega), impl_at_eq _ _ (hr _ (rows_mem m j (by omega)))]
    rfl
  · rw [if_neg h, if_neg (by rw [decide_eq_true_eq]; omega)]
theorem spec_entry_ev (n : List Int) (m : List (List Int)) (r c : Int) (h1 : isPartition n = true) (hc : -1000 ≤ c) (hc2 : c ≤ 2097152) : Ev (fun k => spec_l5Entry.f k n m r c) (entryOf n m r c) := by
  have hb := at0_bd h1 r
  unfold spec_l5Entry.f entryOf
  refine ev_ite (fun h => ?_) (fun h => ?_)
  · refine Ev.step (fun k => by rw [spec_l5Entry.j0]) ?_
    exact ev_pos rfl (ev_val (by rw [if_neg (by omega)]))
  · refine Ev.step (fun k => by rw [spec_l5Entry.j0]) ?_
    refine ev_ite (fun h2 => ev_val ?_) (fun h2 => ?_)
    · rw [decide_eq_true_eq] at h2
      rw [if_neg (by omega)]
    · rw [decide_eq_true_eq] at h2
      rw [if_pos (by omega)]
      refine ev_bindc (spec_l2At_eq n r) ?_
      rw [wrap_id (by omega) (by omega)]
      unfold at0
      generalize rd_L2 m r = q
      generalize (if 0 ≤ r ∧ r < (n.length : Int) then rd n r else 0) = z
      refine ev_ite (fun h3 => ev_val (by rw [if_neg (by omega)])) (fun h3 => ev_pos (by omega) (ev_pos (by omega) (ev_ite (fun h4 => ev_val (by rw [if_neg (by omega)])) (fun h4 => ev_pos (by omega) (ev_pos (by omega) (ev_val (by rw [if_pos (by omega)])))))))
def CellOk (n : List Int) (m : List (List Int)) (i k : Nat) : Prop :=
  (1 ≤ rd (rd_L2 m (i : Int)) (k : Int) ∧ rd (rd_L2 m (i : Int)) (k : Int) ≤ 9) ∧ (0 < k → rd (rd_L2 m (i : Int)) ((k - 1 : Nat) : Int) ≤ rd (rd_L2 m (i : Int)) (k : Int)) ∧ (0 < i → entryOf n m ((i - 1 : Nat) : Int) (at0 n (i : Int) + k) < rd (rd_L2 m (i : Int)) (k : Int))
instance (n : List Int) (m : List (List Int)) (i k : Nat) : Decidable (CellOk n m i k) := by unfold CellOk; infer_instance
def isTab (n : List Int) (m : List (List Int)) : Bool := hasShape n m && (List.range m.length).all (fun i => (List.range (rd_L2 m (i : Int)).length).all (fun k => decide (CellOk n m i k)))
theorem isTab_iff {n : List Int} {m : List (List Int)} : isTab n m = true ↔ hasShape n m = true ∧ ∀ i, i < m.length → ∀ k, k < (rd_L2 m (i : Int)).length → CellOk n m i k := by
  unfold isTab
  rw [Bool.and_eq_true, List.all_eq_true]
  constructor
  · rintro ⟨h1, h2⟩
    refine ⟨h1, fun i hi k hk => ?_⟩
    have := h2 i (List.mem_range.2 hi)
    rw [List.all_eq_true] at this
    simpa using this k (List.mem_range.2 hk)
  · rintro ⟨h1, h2⟩
    refine ⟨h1, fun i hi => ?_⟩
    rw [List.all_eq_true]
    intro k hk
    simpa using h2 i (List.mem_range.1 hi) k (List.mem_range.1 hk)
theorem impl_IsTableau_l1 (n : List Int) (m : List (List Int)) (hs : hasShape n m = true) (hr : ∀ q ∈ m, q.length ≤ 1048576) (i : Nat) (hi : i < m.length) (b : Bool)
    (hnext : Ev (fun k => impl_IsTableau.l0 k m (m.length : Int) ((i + 1 : Nat) : Int) n m) b) :
    ∀ j, j ≤ (rd_L2 m (i : Int)).length → ∃ b', Ev (fun k => impl_IsTableau.l1 k (i : Int) (rd_L2 m (i : Int)) m (m.length : Int) (i : Int) (rd_L2 m (i : Int)) ((rd_L2 m (i : Int)).length : Int) (j : Int) n m) b' ∧ (b' = true ↔ (∀ k, j ≤ k → k < (rd_L2 m (i : Int)).length → CellOk n m i k) ∧ b = true) := by
  obtain ⟨h1, h2, h3, _, h5⟩ := hasShape_bd hs
  have hlen := hr _ (rows_mem m i hi)
  have hrow := h5 i hi
  have hb := at0_bd h1 (i : Int)
  refine downTo _ ?_ ?_
  · refine ⟨b, ?_, ?_⟩
    · refine Ev.step (fun k => by rw [impl_IsTableau.l1]) ?_
      refine ev_neg (by omega) ?_
      rw [wrap_succ (by omega)]; exact hnext
    · constructor
      · intro h; exact ⟨fun k a c => by omega, h⟩
      · intro h; exact h.2
  · rintro j hj ⟨b', hb', hiff⟩
    have hcell : (∀ k, j ≤ k → k < (rd_L2 m (i : Int)).length → CellOk n m i k) ↔ CellOk n m i j ∧ ∀ k, j + 1 ≤ k → k < (rd_L2 m (i : Int)).length → CellOk n m i k := by
      constructor
      · intro h; exact ⟨h j (Nat.le_refl _) hj, fun k a c => h k (by omega) c⟩
      · rintro ⟨h, h'⟩ k a c
        by_cases e : k = j
        · subst e; exact h
        · exact h' k (by omega) c
    have hup : wrap64 ((i : Int) - 1) = (i : Int) - 1 := wrap_id (by omega) (by omega)
    have hcol : wrap64 (at0 n (i : Int) + (j : Int)) = at0 n (i : Int) + j := wrap_id (by omega) (by omega)
    have tail : Ev (fun k => impl_IsTableau.l1 k (i : Int) (rd_L2 m (i : Int)) m (m.length : Int) (i : Int) (rd_L2 m (i : Int)) ((rd_L2 m (i : Int)).length : Int) (wrap64 ((j : Int) + 1)) n m) b' := by
      rw [wrap_succ (by omega)]; exact hb'
    by_cases c1 : 1 ≤ rd (rd_L2 m (i : Int)) (j : Int) ∧ rd (rd_L2 m (i : Int)) (j : Int) ≤ 9
    · by_cases c2 : 0 < j → rd (rd_L2 m (i : Int)) ((j - 1 : Nat) : Int) ≤ rd (rd_L2 m (i : Int)) (j : Int)
      · by_cases c3 : 0 < i → entryOf n m ((i - 1 : Nat) : Int) (at0 n (i : Int) + j) < rd (rd_L2 m (i : Int)) (j : Int)
        · refine ⟨b', ?_, ?_⟩
          · refine Ev.step (fun k => by rw [impl_IsTableau.l1]) ?_
            refine ev_pos (by omega) (ev_pos (by omega) (ev_pos (by omega) (ev_bindc (impl_within_eq _ _ _) (ev_pos (decide_eq_true c1) ?_))))
            have up : Ev (fun k => if (i : Int) > 0 then ((impl_at.f n (i : Int)).bind fun t222 => ((impl_Tableau_entry.f n m (wrap64 ((i : Int) - 1)) (wrap64 (t222 + (j : Int)))).bind fun t223 => (if (rd (rd_L2 m (i : Int)) (j : Int)) ≤ t223 then (some false) else (impl_IsTableau.l1 k (i : Int) (rd_L2 m (i : Int)) m (m.length : Int) (i : Int) (rd_L2 m (i : Int)) ((rd_L2 m (i : Int)).length : Int) (wrap64 ((j : Int) + 1)) n m)))) else (impl_IsTableau.l1 k (i : Int) (rd_L2 m (i : Int)) m (m.length : Int) (i : Int) (rd_L2 m (i : Int)) ((rd_L2 m (i : Int)).length : Int) (wrap64 ((j : Int) + 1)) n m)) b' := by
              refine ev_ite (fun hp => ?_) (fun _ => tail)
              refine ev_bindc (impl_at_eq n _ (by omega)) ?_
              rw [hup, hcol]
              refine ev_bindc (impl_entry_eq n m _ _ h1 (by omega) hr (by omega) (by omega)) (ev_neg ?_ tail)
              have := c3 (by omega)
              rw [show ((i - 1 : Nat) : Int) = (i : Int) - 1 by omega] at this
              omega
            by_cases hj0 : (j : Int) > 0
            · have e : wrap64 ((j : Int) - 1) = ((j - 1 : Nat) : Int) := by unfold wrap64; omega
              rw [e]
              have := c2 (by omega)
              exact ev_pos hj0 (ev_pos (by omega) (ev_pos (by omega) (ev_neg (by omega) up)))
            · exact ev_neg hj0 up
          · rw [hiff, hcell]
            constructor
            · rintro ⟨g1, g2⟩; exact ⟨⟨⟨c1, c2, c3⟩, g1⟩, g2⟩
            · rintro ⟨⟨_, g1⟩, g2⟩; exact ⟨g1, g2⟩
        · have hi0 : 0 < i := Classical.byContradiction fun h => c3 (fun h' => absurd h' h)
          have hge : ¬ entryOf n m ((i - 1 : Nat) : Int) (at0 n (i : Int) + j) < rd (rd_L2 m (i : Int)) (j : Int) := fun h => c3 (fun _ => h)
          refine ⟨false, ?_, ?_⟩
          · refine Ev.step (fun k => by rw [impl_IsTableau.l1]) ?_
            refine ev_pos (by omega) (ev_pos (by omega) (ev_pos (by omega) (ev_bindc (impl_within_eq _ _ _) (ev_pos (decide_eq_true c1) ?_))))
            have up : Ev (fun k => if (i : Int) > 0 then ((impl_at.f n (i : Int)).bind fun t222 => ((impl_Tableau_entry.f n m (wrap64 ((i : Int) - 1)) (wrap64 (t222 + (j : Int)))).bind fun t223 => (if (rd (rd_L2 m (i : Int)) (j : Int)) ≤ t223 then (some false) else (impl_IsTableau.l1 k (i : Int) (rd_L2 m (i : Int)) m (m.length : Int) (i : Int) (rd_L2 m (i : Int)) ((rd_L2 m (i : Int)).length : Int) (wrap64 ((j : Int) + 1)) n m)))) else (impl_IsTableau.l1 k (i : Int) (rd_L2 m (i : Int)) m (m.length : Int) (i : Int) (rd_L2 m (i : Int)) ((rd_L2 m (i : Int)).length : Int) (wrap64 ((j : Int) + 1)) n m)) false := by
              refine ev_pos (by omega) (ev_bindc (impl_at_eq n _ (by omega)) ?_)
              rw [hup, hcol]
              refine ev_bindc (impl_entry_eq n m _ _ h1 (by omega) hr (by omega) (by omega)) (ev_pos ?_ (ev_val rfl))
              rw [show ((i - 1 : Nat) : Int) = (i : Int) - 1 by omega] at hge
              omega
            by_cases hj0 : (j : Int) > 0
            · have e : wrap64 ((j : Int) - 1) = ((j - 1 : Nat) : Int) := by unfold wrap64; omega
              rw [e]
              have := c2 (by omega)
              exact ev_pos hj0 (ev_pos (by omega) (ev_pos (by omega) (ev_neg (by omega) up)))
            · exact ev_neg hj0 up
          · rw [hcell]
            constructor
            · intro h; cases h
            · rintro ⟨⟨⟨_, _, g⟩, _⟩, _⟩; exact absurd g c3
      · have hj0 : 0 < j := Classical.byContradiction fun h => c2 (fun h' => absurd h' h)
        have hlt : ¬ rd (rd_L2 m (i : Int)) ((j - 1 : Nat) : Int) ≤ rd (rd_L2 m (i : Int)) (j : Int) := fun h => c2 (fun _ => h)
        refine ⟨false, ?_, ?_⟩
        · refine Ev.step (fun k => by rw [impl_IsTableau.l1]) ?_
          have e : wrap64 ((j : Int) - 1) = ((j - 1 : Nat) : Int) := by unfold wrap64; omega
          rw [e]
          exact ev_pos (by omega) (ev_pos (by omega) (ev_pos (by omega) (ev_bindc (impl_within_eq _ _ _) (ev_pos (decide_eq_true c1) (ev_pos (by omega) (ev_pos (by omega) (ev_pos (by omega) (ev_pos (by omega) (ev_val rfl)))))))))
        · rw [hcell]
          constructor
          · intro h; cases h
          · rintro ⟨⟨⟨_, g, _⟩, _⟩, _⟩; exact absurd g c2
    · refine ⟨false, ?_, ?_⟩
      · refine Ev.step (fun k => by rw [impl_IsTableau.l1]) ?_
        exact ev_pos (by omega) (ev_pos (by omega) (ev_pos (by omega) (ev_bindc (impl_within_eq _ _ _) (ev_neg (by rw [decide_eq_true_eq]; exact c1) (ev_val rfl)))))
      · rw [hcell]
        constructor
        · intro h; cases h
        · rintro ⟨⟨⟨g, _, _⟩, _⟩, _⟩; exact absurd g c1
theorem impl_IsTableau_ev (n : List Int) (m : List (List Int)) (hn : n.length ≤ 1048576) (hm : m.length ≤ 1048576) (hr : ∀ r ∈ m, r.length ≤ 1048576) : Ev (fun k => impl_IsTableau.f k n m) (isTab n m) := by
  unfold impl_IsTableau.f
  refine Ev.bind (impl_ShapeOf_ev n m hn hm hr) ?_
  by_cases hs : hasShape n m = true
  · rw [show shapeOf n m = (outerOf n m, n, true) by unfold shapeOf; rw [if_pos hs]]
    refine ev_pos rfl ?_
    have key : ∀ i, i ≤ m.length → ∃ b, Ev (fun k => impl_IsTableau.l0 k m (m.length : Int) (i : Int) n m) b ∧ (b = true ↔ ∀ i', i ≤ i' → i' < m.length → ∀ k, k < (rd_L2 m (i' : Int)).length → CellOk n m i' k) := by
      refine downTo m.length ?_ ?_
      · refine ⟨true, ?_, by simp; intro i' a b; omega⟩
        refine Ev.step (fun k => by rw [impl_IsTableau.l0]) ?_
        exact ev_neg (by omega) (ev_val rfl)
      · rintro i hi ⟨b, hb, hiff⟩
        obtain ⟨b', hb', hiff'⟩ := impl_IsTableau_l1 n m hs hr i hi b hb 0 (by omega)
        refine ⟨b', ?_, ?_⟩
        · refine Ev.step (fun k => by rw [impl_IsTableau.l0]) ?_
          exact ev_pos (by omega) (ev_pos (by omega) (ev_pos (by omega) hb'))
        · rw [hiff', hiff]
          constructor
          · rintro ⟨g1, g2⟩ i' a c k hk
            by_cases e : i' = i
            · subst e; exact g1 k (by omega) hk
            · exact g2 i' (by omega) c k hk
          · intro g; exact ⟨fun k _ hk => g i (Nat.le_refl _) hi k hk, fun i' a c k hk => g i' (by omega) c k hk⟩
    obtain ⟨b, hb, hiff⟩ := key 0 (by omega)
    refine ev_eq hb ?_
    rw [Bool.eq_iff_iff, hiff, isTab_iff]
    exact ⟨fun g => ⟨hs, fun i hi k hk => g i (by omega) hi k hk⟩, fun g i _ hi k hk => g.2 i hi k hk⟩
  · rw [show shapeOf n m = ([], [], false) by unfold shapeOf; rw [if_neg hs]]
    refine ev_neg (by simp) (ev_val ?_)
    simp only [Bool.not_eq_true] at hs
    unfold isTab; rw [hs]; rfl
theorem entryOf_cell (n : List Int) (m : List (List Int)) (i j : Nat) (hi : i < m.length) (hj : j < (rd_L2 m (i : Int)).length) : entryOf n m (i : Int) (at0 n (i : Int) + j) = rd (rd_L2 m (i : Int)) (j : Int) := by
  unfold entryOf
  rw [if_pos (by omega), show at0 n (i : Int) + (j : Int) - at0 n (i : Int) = (j : Int) by omega, at0_nat _ j hj]
theorem entryOf_left (n : List Int) (m : List (List Int)) (i j : Nat) (hi : i < m.length) (hj : j < (rd_L2 m (i : Int)).length) : entryOf n m (i : Int) (at0 n (i : Int) + j - 1) = if 0 < j then rd (rd_L2 m (i : Int)) ((j - 1 : Nat) : Int) else 0 := by
  unfold entryOf
  rw [if_pos (by omega)]
  by_cases h : 0 < j
  · rw [if_pos h, show at0 n (i : Int) + (j : Int) - 1 - at0 n (i : Int) = ((j - 1 : Nat) : Int) by omega, at0_nat _ (j - 1) (by omega)]
  · rw [if_neg h, at0_out _ _ (.inl (by omega))]
theorem spec_IsTableau_l1 (n : List Int) (m : List (List Int)) (hs : hasShape n m = true) (i : Nat) (hi : i < m.length) (b : Bool)
    (hnext : Ev (fun k => spec_IsTableau.l0 k ((i + 1 : Nat) : Int) n m (outerOf n m) n) b) :
    ∀ j, j ≤ (rd_L2 m (i : Int)).length → ∃ b', Ev (fun k => spec_IsTableau.l1 k (i : Int) (at0 n (i : Int) + (j : Int)) n m (outerOf n m) n) b' ∧ (b' = true ↔ (∀ k, j ≤ k → k < (rd_L2 m (i : Int)).length → CellOk n m i k) ∧ b = true) := by
  obtain ⟨h1, h2, h3, _, h5⟩ := hasShape_bd hs
  have hrow := h5 i hi
  have hb := at0_bd h1 (i : Int)
  have hol := outerOf_length n m
  have hor := outerOf_rd n m i hi
  refine downTo _ ?_ ?_
  · refine ⟨b, ?_, ?_⟩
    · refine Ev.step (fun k => by rw [spec_IsTableau.l1]) ?_
      refine ev_pos (by omega) (ev_pos (by omega) (ev_neg (by omega) ?_))
      rw [wrap_succ (by omega)]; exact hnext
    · constructor
      · intro h; exact ⟨fun k a c => by omega, h⟩
      · intro h; exact h.2
  · rintro j hj ⟨b', hb', hiff⟩
    have hcell : (∀ k, j ≤ k → k < (rd_L2 m (i : Int)).length → CellOk n m i k) ↔ CellOk n m i j ∧ ∀ k, j + 1 ≤ k → k < (rd_L2 m (i : Int)).length → CellOk n m i k := by
      constructor
      · intro h; exact ⟨h j (Nat.le_refl _) hj, fun k a c => h k (by omega) c⟩
      · rintro ⟨h, h'⟩ k a c
        by_cases e : k = j
        · subst e; exact h
        · exact h' k (by omega) c
    have hx := entryOf_cell n m i j hi hj
    have hleft := entryOf_left n m i j hi hj
    have hup : wrap64 ((i : Int) - 1) = (i : Int) - 1 := wrap_id (by omega) (by omega)
    have hc1 : wrap64 (at0 n (i : Int) + (j : Int) - 1) = at0 n (i : Int) + j - 1 := wrap_id (by omega) (by omega)
    have hc2 : wrap64 (at0 n (i : Int) + (j : Int) + 1) = at0 n (i : Int) + ((j + 1 : Nat) : Int) := by rw [wrap_id (by omega) (by omega)]; omega
    have hj2 : ∀ left : Int, left = (if 0 < j then rd (rd_L2 m (i : Int)) ((j - 1 : Nat) : Int) else 0) → ∃ v, Ev (fun k => spec_IsTableau.j2 k (i : Int) (at0 n (i : Int) + (j : Int)) (rd (rd_L2 m (i : Int)) (j : Int)) left n m (outerOf n m) n) v ∧ (v = true ↔ (∀ k, j ≤ k → k < (rd_L2 m (i : Int)).length → CellOk n m i k) ∧ b = true) := by
      intro left hl
      rw [hcell]
      by_cases c1 : 1 ≤ rd (rd_L2 m (i : Int)) (j : Int) ∧ rd (rd_L2 m (i : Int)) (j : Int) ≤ 9
      · by_cases c2 : left > rd (rd_L2 m (i : Int)) (j : Int)
        · refine ⟨false, ?_, ?_⟩
          · refine Ev.step (fun k => by rw [spec_IsTableau.j2]) ?_
            exact ev_bindc (spec_l1In_eq _ _ _) (ev_pos (decide_eq_true c1) (ev_pos c2 (ev_val rfl)))
          · constructor
            · intro h; cases h
            · rintro ⟨⟨⟨_, g, _⟩, _⟩, _⟩
              exfalso
              by_cases hj0 : 0 < j
              · rw [if_pos hj0] at hl; have := g hj0; omega
              · rw [if_neg hj0] at hl; omega
        · by_cases c3 : entryOf n m ((i : Int) - 1) (at0 n (i : Int) + j) ≥ rd (rd_L2 m (i : Int)) (j : Int)
          · refine ⟨false, ?_, ?_⟩
            · refine Ev.step (fun k => by rw [spec_IsTableau.j2]) ?_
              rw [hup]
              exact ev_bindc (spec_l1In_eq _ _ _) (ev_pos (decide_eq_true c1) (ev_neg c2 (Ev.bind (spec_entry_ev n m _ _ h1 (by omega) (by omega)) (ev_pos c3 (ev_val rfl)))))
            · constructor
              · intro h; cases h
              · rintro ⟨⟨⟨_, _, g⟩, _⟩, _⟩
                exfalso
                by_cases hi0 : 0 < i
                · have := g hi0
                  rw [show ((i - 1 : Nat) : Int) = (i : Int) - 1 by omega] at this
                  omega
                · have : entryOf n m ((i : Int) - 1) (at0 n (i : Int) + j) = 0 := by unfold entryOf; rw [if_neg (by omega)]
                  omega
          · refine ⟨b', ?_, ?_⟩
            · refine Ev.step (fun k => by rw [spec_IsTableau.j2]) ?_
              rw [hup, hc2]
              exact ev_bindc (spec_l1In_eq _ _ _) (ev_pos (decide_eq_true c1) (ev_neg c2 (Ev.bind (spec_entry_ev n m _ _ h1 (by omega) (by omega)) (ev_neg c3 hb'))))
            · rw [hiff]
              constructor
              · rintro ⟨g1, g2⟩
                refine ⟨⟨⟨c1, fun hj0 => ?_, fun hi0 => ?_⟩, g1⟩, g2⟩
                · rw [if_pos hj0] at hl; omega
                · rw [show ((i - 1 : Nat) : Int) = (i : Int) - 1 by omega]; omega
              · rintro ⟨⟨_, g1⟩, g2⟩; exact ⟨g1, g2⟩
      · refine ⟨false, ?_, ?_⟩
        · refine Ev.step (fun k => by rw [spec_IsTableau.j2]) ?_
          exact ev_bindc (spec_l1In_eq _ _ _) (ev_neg (by rw [decide_eq_true_eq]; exact c1) (ev_val rfl))
        · constructor
          · intro h; cases h
          · rintro ⟨⟨⟨g, _, _⟩, _⟩, _⟩; exact absurd g c1
    obtain ⟨v, hv, hvi⟩ := hj2 _ rfl
    refine ⟨v, ?_, hvi⟩
    refine Ev.step (fun k => by rw [spec_IsTableau.l1]) ?_
    rw [hc1]
    have e1 := spec_entry_ev n m (i : Int) (at0 n (i : Int) + j) h1 (by omega) (by omega)
    rw [hx] at e1
    refine ev_pos (by omega) (ev_pos (by omega) (ev_pos (by omega) (Ev.bind e1 (ev_ite (fun hp => ?_) (fun hp => ?_)))))
    · have e2 := spec_entry_ev n m (i : Int) (at0 n (i : Int) + j - 1) h1 (by omega) (by omega)
      rw [hleft] at e2
      exact Ev.bind e2 hv
    · have : (if 0 < j then rd (rd_L2 m (i : Int)) ((j - 1 : Nat) : Int) else 0) = 0 := by rw [if_neg (by omega)]
      rw [this] at hv
      exact hv
theorem spec_IsTableau_ev (n : List Int) (m : List (List Int)) (hn : n.length ≤ 1048576) (hm : m.length ≤ 1048576) (hr : ∀ r ∈ m, r.length ≤ 1048576) : Ev (fun k => spec_IsTableau.f k n m) (isTab n m) := by
  unfold spec_IsTableau.f
  refine Ev.bind (spec_ShapeOf_ev n m hn hm hr) ?_
  by_cases hs : hasShape n m = true
  · rw [show shapeOf n m = (outerOf n m, n, true) by unfold shapeOf; rw [if_pos hs]]
    refine ev_pos rfl ?_
    have hol := outerOf_length n m
    have key : ∀ i, i ≤ m.length → ∃ b, Ev (fun k => spec_IsTableau.l0 k (i : Int) n m (outerOf n m) n) b ∧ (b = true ↔ ∀ i', i ≤ i' → i' < m.length → ∀ k, k < (rd_L2 m (i' : Int)).length → CellOk n m i' k) := by
      refine downTo m.length ?_ ?_
      · refine ⟨true, ?_, by simp; intro i' a b; omega⟩
        refine Ev.step (fun k => by rw [spec_IsTableau.l0]) ?_
        exact ev_neg (by omega) (ev_val rfl)
      · rintro i hi ⟨b, hb, hiff⟩
        obtain ⟨b', hb', hiff'⟩ := spec_IsTableau_l1 n m hs i hi b hb 0 (by omega)
        refine ⟨b', ?_, ?_⟩
        · refine Ev.step (fun k => by rw [spec_IsTableau.l0]) ?_
          refine ev_pos (by omega) (ev_bindc (spec_l2At_eq n _) ?_)
          simpa using hb'
        · rw [hiff', hiff]
          constructor
          · rintro ⟨g1, g2⟩ i' a c k hk
            by_cases e : i' = i
            · subst e; exact g1 k (by omega) hk
            · exact g2 i' (by omega) c k hk
          · intro g; exact ⟨fun k _ hk => g i (Nat.le_refl _) hi k hk, fun i' a c k hk => g i' (by omega) c k hk⟩
    obtain ⟨b, hb, hiff⟩ := key 0 (by omega)
    refine ev_eq hb ?_
    rw [Bool.eq_iff_iff, hiff, isTab_iff]
    exact ⟨fun g => ⟨hs, fun i hi k hk => g i (by omega) hi k hk⟩, fun g i _ hi k hk => g.2 i hi k hk⟩
  · rw [show shapeOf n m = ([], [], false) by unfold shapeOf; rw [if_neg hs]]
    refine ev_neg (by simp) (ev_val ?_)
    simp only [Bool.not_eq_true] at hs
    unfold isTab; rw [hs]; rfl
end Go.Proofs.YtpandocpclecgaaGreatDoor.Q

set_option linter.unusedVariables false
set_option linter.unusedSimpArgs false
namespace Go.Proofs.YtpandocpclecgaaGreatDoor.Q
open Go.RowKit Go.Proofs.YtpandocpclecgaaGreatDoor.F Go.Proofs.YtpandocpclecgaaGreatDoorW.PrintWords Go.Proofs.YtpandocpclecgaaGreatDoorW.PrintLast Go.Proofs.YtpandocpclecgaaGreatDoorW.PrintMore
theorem parts_few : ∀ n : Fin 10, ∀ m : Fin 10, (partsF 9 n.1 m.1).length ≤ 256 := by decide +kernel
theorem l2Draw_ok {b : List Int} {i : Int} (h : Int) (m : Nat) (hc : Cur b i) (hm : m ≤ 9) (hm1 : 1 ≤ m) : ∃ p i' h', Ev (fun k => spec_l2Draw.f k b i h (m : Int)) (p, i', h') ∧ isPartition p = true ∧ isum p ≤ (m : Int) ∧ Cur b i' := by
  obtain ⟨x, i1, h1, e1, x0, _, x1, hc1⟩ := below_ok h ((m : Int) + 1) hc (by omega)
  have x1 := x1 (by omega)
  obtain ⟨n, rfl⟩ : ∃ n : Nat, x = (n : Int) := ⟨x.toNat, by omega⟩
  have hn : n ≤ 9 := by omega
  have e2 := l2All_ev 9 n m hn (Nat.le_refl _) hn hm
  have hf : (partsF 9 n m).length ≤ 256 := parts_few ⟨n, by omega⟩ ⟨m, by omega⟩
  have hp := partsF_pos (f := 9) (n := n) (m := m) hn hm1
  have hmem : ∀ p ∈ partsF 9 n m, isPartition p = true ∧ isum p ≤ (m : Int) := by
    intro p hp
    obtain ⟨g1, g2, g3⟩ := partsF_mem 9 n m hn p hp
    exact ⟨isPartition_iff.2 ⟨fun x hx => (g1 x hx).1, g2, by omega⟩, by omega⟩
  obtain ⟨l, hl⟩ : ∃ l, l = partsF 9 n m := ⟨_, rfl⟩
  rw [← hl] at e2 hf hp hmem
  obtain ⟨y, i2, h2, e3, y0, _, y1, hc2⟩ := below_ok h1 (l.length : Int) hc1 (by omega)
  have y1 := y1 (by omega)
  obtain ⟨j, rfl⟩ : ∃ j : Nat, y = (j : Int) := ⟨y.toNat, by omega⟩
  have hj : j < l.length := by omega
  refine ⟨rd_L2 l (j : Int), i2, h2, ?_, (hmem _ (rows_mem l j hj)).1, (hmem _ (rows_mem l j hj)).2, hc2⟩
  unfold spec_l2Draw.f
  rw [wrap_id (by omega) (by omega)]
  exact ev_bindc e1 (Ev.bind e2 (ev_bindc e3 (ev_pos y0 (ev_pos y1 (ev_val rfl)))))
theorem isum_take_ge {o n : List Int} (ho : ∀ x ∈ o, 1 ≤ x) : n.length ≤ o.length → (∀ j : Nat, j < n.length → rd n (j : Int) ≤ rd o (j : Int)) → isum n ≤ isum o := by
  induction n generalizing o with
  | nil => intro _ _; have := isum_ge ho; simpa [isum] using this
  | cons x n ih =>
    intro hl hj
    cases o with
    | nil => simp at hl
    | cons y o =>
      have h1 := ih (o := o) (fun z hz => ho z (by simp [hz])) (by simpa using hl) (fun j hj' => by
        have := hj (j + 1) (by simpa using hj')
        rw [rd_nat, rd_nat] at this ⊢
        simpa using this)
      have h2 := hj 0 (by simp)
      have h3 : x ≤ y := by simpa [rd] using h2
      simp only [isum]
      omega
theorem rd_snoc_lt (l : List Int) (x : Int) (j : Nat) (h : j < l.length) : rd (l ++ [x]) (j : Int) = rd l (j : Int) := by
  rw [rd_nat, rd_nat, List.getD_eq_getElem?_getD, List.getD_eq_getElem?_getD, List.getElem?_append_left h]
theorem rd_snoc_at (l : List Int) (x : Int) : rd (l ++ [x]) (l.length : Int) = x := by
  rw [rd_nat, List.getD_eq_getElem?_getD, List.getElem?_append_right (Nat.le_refl _)]; simp
theorem l4Draw_ok {b : List Int} {i : Int} (h : Int) (m : Nat) (hc : Cur b i) (hm : m ≤ 9) (hm1 : 1 ≤ m) : ∃ o n i' h', Ev (fun k => spec_l4Draw.f k b i h (m : Int)) (o, n, i', h') ∧ isPartition o = true ∧ isPartition n = true ∧ n.length ≤ o.length ∧ (∀ j : Nat, j < n.length → rd n (j : Int) ≤ rd o (j : Int)) ∧ isum o ≤ (m : Int) ∧ Cur b i' := by
  obtain ⟨o, i1, h1, e1, hp, hs, hc1⟩ := l2Draw_ok h m hc hm hm1
  obtain ⟨o1, o2, o3⟩ := isPartition_bd hp
  have key : ∀ (d j : Nat) (low : Int) (n : List Int) (i h : Int), j + d = o.length → 1 ≤ low → n.length = j → (∀ x ∈ n, 1 ≤ x ∧ low ≤ x) → n.Pairwise (fun a b => b ≤ a) → (∀ j : Nat, j < n.length → rd n (j : Int) ≤ rd o (j : Int)) → Cur b i →
      ∃ n' i' h', Ev (fun k => spec_l4Draw.l0 k low (j : Int) b i h o n) (o, n', i', h') ∧ (∀ x ∈ n', 1 ≤ x) ∧ n'.Pairwise (fun a b => b ≤ a) ∧ n'.length ≤ o.length ∧ (∀ j : Nat, j < n'.length → rd n' (j : Int) ≤ rd o (j : Int)) ∧ Cur b i' := by
    intro d
    induction d with
    | zero =>
      intro j low n i h hj hlow1 hn h1 h2 h3 hc
      exact ⟨n, i, h, Ev.step (fun k => by rw [spec_l4Draw.l0]) (ev_neg (by omega) (ev_val rfl)), fun x hx => (h1 x hx).1, h2, by omega, h3, hc⟩
    | succ d ih =>
      intro j low n i h hj hlow1 hn h1 h2 h3 hc
      have hjl : j < o.length := by omega
      have hv := o3 _ (rd_mem o j hjl)
      obtain ⟨x, i2, h2', e2, x0, _, x1, hc2⟩ := below_ok h (rd o (j : Int) + 1) hc (by omega)
      have x1 := x1 (by omega)
      obtain ⟨t, ht⟩ : ∃ t, t = if low < x then low else x := ⟨_, rfl⟩
      have et : spec_l1Min.f low x = some t := by rw [ht]; unfold spec_l1Min.f; by_cases hl : low < x <;> simp [hl]
      by_cases ht0 : t = 0
      · refine ⟨n, i2, h2', Ev.step (fun k => by rw [spec_l4Draw.l0]) (ev_pos (by omega) (ev_pos (by omega) ?_)), fun x hx => (h1 x hx).1, h2, by omega, h3, hc2⟩
        rw [wrap_id (by omega) (by omega)]
        exact ev_bindc e2 (ev_bindc et (ev_pos ht0 (ev_val rfl)))
      · obtain ⟨q, i3, h3', e3, hc3⟩ := once_ok h2' 3 hc2 (by omega)
        cases q with
        | true =>
          refine ⟨n, i3, h3', Ev.step (fun k => by rw [spec_l4Draw.l0]) (ev_pos (by omega) (ev_pos (by omega) ?_)), fun x hx => (h1 x hx).1, h2, by omega, h3, hc3⟩
          rw [wrap_id (by omega) (by omega)]
          exact ev_bindc e2 (ev_bindc et (ev_neg ht0 (ev_bindc e3 (ev_pos rfl (ev_val rfl)))))
        | false =>
          have ht1 : 1 ≤ t := by by_cases hl : low < x <;> simp only [hl, if_true, if_false] at ht <;> omega
          obtain ⟨n', i', h', e4, g1, g2, g3, g4, g5⟩ := ih (j + 1) t (n ++ [t]) i3 h3' (by omega) ht1 (by simp [hn])
            (fun y hy => by
              rcases List.mem_append.1 hy with hy | hy
              · have := h1 y hy; have : t ≤ low := by rw [ht]; split <;> omega
                omega
              · have : y = t := by simpa using hy
                omega)
            (List.pairwise_append.2 ⟨h2, List.pairwise_singleton _ _, fun y hy z hz => by
              have e : z = t := by simpa using hz
              have := h1 y hy; have : t ≤ low := by rw [ht]; split <;> omega
              omega⟩)
            (fun k hk => by
              rw [List.length_append, List.length_singleton] at hk
              rcases Nat.lt_or_ge k n.length with hk2 | hk2
              · rw [rd_snoc_lt n t k hk2]; exact h3 k hk2
              · obtain rfl : k = n.length := by omega
                rw [rd_snoc_at, hn]
                have : t ≤ x := by rw [ht]; split <;> omega
                omega) hc3
          refine ⟨n', i', h', Ev.step (fun k => by rw [spec_l4Draw.l0]) (ev_pos (by omega) (ev_pos (by omega) ?_)), g1, g2, g3, g4, g5⟩
          rw [wrap_id (i := rd o (j : Int) + 1) (by omega) (by omega), wrap_succ (by omega)]
          exact ev_bindc e2 (ev_bindc et (ev_neg ht0 (ev_bindc e3 (ev_neg (by simp) (ev_pos (by omega) e4)))))
  obtain ⟨n, i2, h2, e2, g1, g2, g3, g4, hc2⟩ := key o.length 0 (m : Int) [] i1 h1 (by omega) (by omega) rfl (by simp) List.Pairwise.nil (fun j hj => by simp at hj) hc1
  refine ⟨o, n, i2, h2, by unfold spec_l4Draw.f; exact Ev.bind e1 e2, hp, isPartition_iff.2 ⟨g1, g2, ?_⟩, g3, g4, hs, hc2⟩
  have := isum_take_ge (fun x hx => (o3 x hx).1) g3 g4
  omega
theorem spec_l1Min_some (a b : Int) : ∃ c, spec_l1Min.f a b = some c := by unfold spec_l1Min.f; split <;> exact ⟨_, rfl⟩
theorem spec_l1Max_some (a b : Int) : ∃ c, spec_l1Max.f a b = some c := by unfold spec_l1Max.f; split <;> exact ⟨_, rfl⟩
theorem spec_l1Bit_some (a : Bool) : ∃ c, spec_l1Bit.f a = some c := by unfold spec_l1Bit.f; split <;> exact ⟨_, rfl⟩
theorem l5Fill_ok {b : List Int} {i : Int} (h : Int) (o n : List Int) (hc : Cur b i) (ho : isPartition o = true) (hn : isPartition n = true) : ∃ m i' h', Ev (fun k => spec_l5Fill.f k b i h o n) (n, m, i', h') ∧ m.length ≤ 9 ∧ (∀ r ∈ m, r.length ≤ 9) ∧ Cur b i' := by
  obtain ⟨o1, o2, o3⟩ := isPartition_bd ho
  have nb := at0_bd hn
  have key : ∀ (d j : Nat) (m : List (List Int)) (i h : Int), j + d = o.length → m.length = j → (∀ r ∈ m, r.length ≤ 9) → Cur b i →
      ∃ m' i' h', Ev (fun k => spec_l5Fill.l0 k (j : Int) b i h o n n m) (n, m', i', h') ∧ m'.length ≤ 9 ∧ (∀ r ∈ m', r.length ≤ 9) ∧ Cur b i' := by
    intro d
    induction d with
    | zero =>
      intro j m i h hj hm hr hc
      exact ⟨m, i, h, Ev.step (fun k => by rw [spec_l5Fill.l0]) (ev_neg (by omega) (ev_val rfl)), by omega, hr, hc⟩
    | succ d ih =>
      intro j m i h hj hm hr hc
      have hjl : j < o.length := by omega
      have hv := o3 _ (rd_mem o j hjl)
      have ha := nb (j : Int)
      obtain ⟨s, hs⟩ : ∃ s : Nat, at0 n (j : Int) = (s : Int) := ⟨(at0 n (j : Int)).toNat, by omega⟩
      obtain ⟨f, hf⟩ : ∃ f : Nat, rd o (j : Int) = (f : Int) := ⟨(rd o (j : Int)).toNat, by omega⟩
      have inner : ∀ (e c : Nat) (row : List Int) (low i h : Int), c + e = max s f → s ≤ c → row.length = c - s → Cur b i →
          ∃ m' i' h', Ev (fun k => spec_l5Fill.l1 k (j : Int) row low (c : Int) b i h o n n m) (n, m', i', h') ∧ m'.length ≤ 9 ∧ (∀ r ∈ m', r.length ≤ 9) ∧ Cur b i' := by
        intro e
        induction e with
        | zero =>
          intro c row low i h hce hsc hrl hc
          obtain ⟨m', i', h', e4, g1, g2, g3⟩ := ih (j + 1) (m ++ [row]) i h (by omega) (by simp [hm]) (fun r hr' => by
            rcases List.mem_append.1 hr' with hr' | hr'
            · exact hr r hr'
            · obtain rfl : r = row := by simpa using hr'
              omega) hc
          refine ⟨m', i', h', Ev.step (fun k => by rw [spec_l5Fill.l1]) (ev_pos (by omega) (ev_pos (by omega) (ev_neg (by omega) (ev_pos (by omega) ?_)))), g1, g2, g3⟩
          rw [wrap_succ (by omega)]
          exact e4
        | succ e ihe =>
          intro c row low i h hce hsc hrl hc
          by_cases hcf : (c : Int) < rd o (j : Int)
          · obtain ⟨t1, e1⟩ := spec_l1Max_some low (wrap64 (entryOf n m (wrap64 ((j : Int) - 1)) (c : Int) + 1))
            obtain ⟨q, i2, h2, e2, hc2⟩ := once_ok h 3 hc (by omega)
            obtain ⟨t3, e3⟩ := spec_l1Bit_some q
            obtain ⟨x, i4, h4, e4, _, _, _, hc4⟩ := below_ok h2 2 hc2 (by omega)
            obtain ⟨t5, e5⟩ := spec_l1Min_some (wrap64 (t1 + wrap64 (t3 * x))) 9
            obtain ⟨m', i', h', e6, g1, g2, g3⟩ := ihe (c + 1) (row ++ [t5]) t5 i4 h4 (by omega) (by omega) (by rw [List.length_append, List.length_singleton]; omega) hc4
            refine ⟨m', i', h', Ev.step (fun k => by rw [spec_l5Fill.l1]) (ev_pos (by omega) (ev_pos (by omega) (ev_pos hcf ?_))), g1, g2, g3⟩
            refine Ev.bind (spec_entry_ev n m _ _ hn (by omega) (by omega)) (ev_bindc e1 (ev_bindc e2 (ev_bindc e3 (ev_bindc e4 (ev_bindc e5 (ev_pos (by omega) ?_))))))
            rw [wrap_succ (by omega)]
            exact e6
          · exfalso; omega
      obtain ⟨m', i', h', e4, g1, g2, g3⟩ := inner (max s f - s) s [] 1 i h (by omega) (Nat.le_refl _) (by simp) hc
      refine ⟨m', i', h', Ev.step (fun k => by rw [spec_l5Fill.l0]) (ev_pos (by omega) (ev_bindc (spec_l2At_eq n (j : Int)) ?_)), g1, g2, g3⟩
      rw [hs]
      exact e4
  obtain ⟨m, i', h', e, g1, g2, g3⟩ := key o.length 0 [] i h (by omega) rfl (by simp) hc
  obtain ⟨_, n2, _⟩ := isPartition_bd hn
  refine ⟨m, i', h', ?_, g1, g2, g3⟩
  unfold spec_l5Fill.f
  refine ev_bindc rfl (ev_pos (by simp; omega) ?_)
  rw [List.nil_append]
  exact e
theorem l5Draw_ok {b : List Int} {i : Int} (h : Int) (m0 : Nat) (hc : Cur b i) (hm : m0 ≤ 9) (hm1 : 1 ≤ m0) : ∃ n m i' h', Ev (fun k => spec_l5Draw.f k b i h (m0 : Int)) (n, m, i', h') ∧ isPartition n = true ∧ m.length ≤ 9 ∧ (∀ r ∈ m, r.length ≤ 9) ∧ Cur b i' := by
  obtain ⟨o, n, i1, h1, e1, hp, hn, _, _, _, hc1⟩ := l4Draw_ok h m0 hc hm hm1
  obtain ⟨m, i2, h2, e2, g1, g2, hc2⟩ := l5Fill_ok h1 o n hc1 hp hn
  obtain ⟨_, n2, _⟩ := isPartition_bd hn
  have e3 := spec_IsTableau_ev n m (by omega) (by omega) (fun r hr => by have := g2 r hr; omega)
  cases ht : isTab n m with
  | true =>
    rw [ht] at e3
    exact ⟨n, m, i2, h2, by unfold spec_l5Draw.f; exact Ev.bind e1 (Ev.bind e2 (Ev.bind e3 (ev_pos rfl (ev_val rfl)))), hn, g1, g2, hc2⟩
  | false =>
    rw [ht] at e3
    refine ⟨[], [[1, 1, 2], [2, 3]], i2, h2, by unfold spec_l5Draw.f; exact Ev.bind e1 (Ev.bind e2 (Ev.bind e3 (ev_neg (by simp) (ev_val rfl)))), by rfl, by simp, fun r hr => ?_, hc2⟩
    simp at hr
    rcases hr with rfl | rfl <;> simp
theorem l18Highest_ok {b : List Int} {i : Int} (h : Int) (hc : Cur b i) : ∃ m i' h', Ev (fun k => spec_l18Highest.f k b i h) ([], m, i', h') ∧ m.length ≤ 9 ∧ (∀ r ∈ m, r.length ≤ 9) ∧ Cur b i' := by
  obtain ⟨p, i1, h1, e1, hp, hs, hc1⟩ := l2Draw_ok h 8 hc (by omega) (by omega)
  obtain ⟨p1, p2, p3⟩ := isPartition_bd hp
  have key : ∀ (d j : Nat) (m : List (List Int)), j + d = p.length → m.length = j → (∀ r ∈ m, r.length ≤ 9) →
      ∃ m', Ev (fun k => spec_l18Highest.l0 k p (j : Int) b i1 h1 m) ([], m', i1, h1) ∧ m'.length ≤ 9 ∧ (∀ r ∈ m', r.length ≤ 9) := by
    intro d
    induction d with
    | zero =>
      intro j m hj hm hr
      exact ⟨m, Ev.step (fun k => by rw [spec_l18Highest.l0]) (ev_neg (by omega) (ev_val rfl)), by omega, hr⟩
    | succ d ih =>
      intro j m hj hm hr
      have hjl : j < p.length := by omega
      have hv := p3 _ (rd_mem p j hjl)
      obtain ⟨f, hf⟩ : ∃ f : Nat, rd p (j : Int) = (f : Int) := ⟨(rd p (j : Int)).toNat, by omega⟩
      have inner : ∀ (e c : Nat) (row : List Int), c + e = f → row.length = c → ∃ m', Ev (fun k => spec_l18Highest.l1 k p (j : Int) row (c : Int) b i1 h1 m) ([], m', i1, h1) ∧ m'.length ≤ 9 ∧ (∀ r ∈ m', r.length ≤ 9) := by
        intro e
        induction e with
        | zero =>
          intro c row hce hrl
          obtain ⟨m', e4, g1, g2⟩ := ih (j + 1) (m ++ [row]) (by omega) (by simp [hm]) (fun r hr' => by
            rcases List.mem_append.1 hr' with hr' | hr'
            · exact hr r hr'
            · obtain rfl : r = row := by simpa using hr'
              omega)
          refine ⟨m', Ev.step (fun k => by rw [spec_l18Highest.l1]) (ev_pos (by omega) (ev_pos (by omega) (ev_neg (by omega) (ev_pos (by omega) ?_)))), g1, g2⟩
          rw [wrap_succ (by omega)]
          exact e4
        | succ e ihe =>
          intro c row hce hrl
          obtain ⟨m', e6, g1, g2⟩ := ihe (c + 1) (row ++ [wrap64 ((j : Int) + 1)]) (by omega) (by simp [hrl])
          refine ⟨m', Ev.step (fun k => by rw [spec_l18Highest.l1]) (ev_pos (by omega) (ev_pos (by omega) (ev_pos (by omega) (ev_pos (by omega) ?_)))), g1, g2⟩
          rw [wrap_succ (n := c) (by omega)]
          exact e6
      obtain ⟨m', e4, g1, g2⟩ := inner f 0 [] (by omega) rfl
      refine ⟨m', Ev.step (fun k => by rw [spec_l18Highest.l0]) (ev_pos (by omega) ?_), g1, g2⟩
      exact e4
  obtain ⟨m, e, g1, g2⟩ := key p.length 0 [] (by omega) rfl (by simp)
  exact ⟨m, i1, h1, by unfold spec_l18Highest.f; exact Ev.bind e1 e, g1, g2, hc1⟩
end Go.Proofs.YtpandocpclecgaaGreatDoor.Q

set_option linter.unusedVariables false
set_option linter.unusedSimpArgs false
namespace Go.Proofs.YtpandocpclecgaaGreatDoor.Q
open Go.RowKit Go.Proofs.YtpandocpclecgaaGreatDoor.F Go.Proofs.YtpandocpclecgaaGreatDoorW.PrintWords Go.Proofs.YtpandocpclecgaaGreatDoorW.PrintLast Go.Proofs.YtpandocpclecgaaGreatDoorW.PrintMore
def isWord (l : List Int) : Bool := decide (l.length ≤ 9) && l.all (fun x => decide (1 ≤ x ∧ x ≤ 9))
theorem isWord_iff {l : List Int} : isWord l = true ↔ l.length ≤ 9 ∧ ∀ x ∈ l, 1 ≤ x ∧ x ≤ 9 := by simp [isWord]
theorem impl_IsWord_eq (l : List Int) : impl_IsWord.f l = some (isWord l) := by
  unfold impl_IsWord.f isWord
  congr 2
  rw [List.any_eq_not_all_not]
  simp
theorem spec_IsWord_l0 (l : List Int) (hl : l.length ≤ 1048576) : ∀ (d i : Nat), i + d = l.length → Ev (fun k => spec_IsWord.l0 k l (i : Int)) ((l.drop i).all (fun x => decide (1 ≤ x ∧ x ≤ 9)) && decide (l.length ≤ 9)) := by
  intro d
  induction d with
  | zero =>
    intro i h
    refine Ev.step (fun k => by rw [spec_IsWord.l0]) ?_
    refine ev_neg (by omega) (ev_val ?_)
    rw [List.drop_of_length_le (by omega)]
    simp; omega
  | succ d ih =>
    intro i h
    refine Ev.step (fun k => by rw [spec_IsWord.l0]) ?_
    refine ev_pos (by omega) (ev_pos (by omega) (ev_bindc (spec_l1In_eq _ _ _) (ev_ite (fun he => ?_) (fun he => ev_val ?_))))
    · rw [wrap_succ (by omega)]
      refine ev_eq (ih (i + 1) (by omega)) ?_
      rw [drop_rd l i (by omega), List.all_cons, he, Bool.true_and]
    · rw [drop_rd l i (by omega), List.all_cons]
      simp only [Bool.not_eq_true] at he
      rw [he]; rfl
theorem spec_IsWord_ev (l : List Int) (hl : l.length ≤ 1048576) : Ev (fun k => spec_IsWord.f k l) (isWord l) := by
  unfold spec_IsWord.f
  refine ev_eq (spec_IsWord_l0 l hl l.length 0 (by omega)) ?_
  rw [List.drop_zero, isWord, Bool.and_comm]
end Go.Proofs.YtpandocpclecgaaGreatDoor.Q

set_option linter.unusedVariables false
set_option linter.unusedSimpArgs false
namespace Go.Proofs.YtpandocpclecgaaGreatDoor.Q
open Go.RowKit Go.Proofs.YtpandocpclecgaaGreatDoor.F Go.Proofs.YtpandocpclecgaaGreatDoorW.PrintWords Go.Proofs.YtpandocpclecgaaGreatDoorW.PrintLast Go.Proofs.YtpandocpclecgaaGreatDoorW.PrintMore
theorem l1Bit_dec (c : Prop) [Decidable c] : spec_l1Bit.f (decide c) = some (if c then 1 else 0) := by
  by_cases h : c
  · rw [decide_eq_true h, if_pos h]; rfl
  · rw [decide_eq_false h, if_neg h]; rfl
end Go.Proofs.YtpandocpclecgaaGreatDoor.Q

set_option linter.unusedVariables false
set_option linter.unusedSimpArgs false
namespace Go.Proofs.YtpandocpclecgaaGreatDoor.Q
open Go.RowKit Go.Proofs.YtpandocpclecgaaGreatDoor.F Go.Proofs.YtpandocpclecgaaGreatDoorW.PrintWords Go.Proofs.YtpandocpclecgaaGreatDoorW.PrintLast Go.Proofs.YtpandocpclecgaaGreatDoorW.PrintMore
def standardize (l : List Int) : List Int := if isWord l then places l else []
theorem standardize_le (l : List Int) : (standardize l).length ≤ 9 := by
  unfold standardize
  split
  · rename_i h; rw [places_length]; exact (isWord_iff.1 h).1
  · simp
theorem range_snoc (l : List Int) (i : Nat) : (List.range (i + 1)).map (placeOf l) = (List.range i).map (placeOf l) ++ [placeOf l i] := by simp [List.range_succ]
theorem placeTo_le' (l : List Int) (i j : Nat) : placeTo l i j ≤ j := by have := placeTo_le l i j; omega
theorem spec_Stand_l1 (l : List Int) (hl : l.length ≤ 9) (acc : List Int) (ha : acc.length ≤ 9) (i : Nat) (hi : i < l.length) (r : List Int)
    (hr : Ev (fun k => spec_StandardizeWord.l0 k l (acc ++ [placeOf l i]) ((i + 1 : Nat) : Int)) r) :
    Ev (fun k => spec_StandardizeWord.l1 k l acc (i : Int) 1 0) r := by
  refine downTo (P := fun j => Ev (fun k => spec_StandardizeWord.l1 k l acc (i : Int) ((1 + placeTo l i j : Nat) : Int) (j : Int)) r) l.length ?_ ?_ 0 (by omega)
  · refine Ev.step (fun k => by rw [spec_StandardizeWord.l1]) ?_
    refine ev_neg (by omega) (ev_pos (by omega) ?_)
    rw [wrap_succ (by omega)]
    exact hr
  · intro j hj ih
    have hle := placeTo_le' l i j
    rw [placeTo] at ih
    refine Ev.step (fun k => by rw [spec_StandardizeWord.l1]) ?_
    refine ev_pos (by omega) (ev_pos (by omega) (ev_pos (by omega) (ev_pos (by omega) (ev_ite (fun h1 => ?_) (fun h1 => ev_ite (fun h2 => ?_) (fun h2 => ?_))))))
    · refine ev_bindc (b := 1) rfl ?_
      rw [if_pos (.inl h1)] at ih
      rw [wrap_succ (by omega), wrap_succ (by omega)]
      exact ih
    · refine ev_bindc (l1Bit_dec _) ?_
      by_cases h3 : j < i
      · rw [if_pos (.inr ⟨h2, h3⟩)] at ih
        rw [if_pos (by omega), wrap_succ (by omega), wrap_succ (by omega)]
        exact ih
      · rw [if_neg (by omega)] at ih
        rw [if_neg (by omega), Int.add_zero, wrap_nat (by omega), wrap_succ (by omega)]
        exact ih
    · refine ev_bindc (b := 0) rfl ?_
      rw [if_neg (by omega)] at ih
      rw [Int.add_zero, wrap_nat (by omega), wrap_succ (by omega)]
      exact ih
theorem spec_StandardizeWord_ev (l : List Int) (hl : l.length ≤ 1048576) : Ev (fun k => spec_StandardizeWord.f k l) (standardize l) := by
  unfold spec_StandardizeWord.f standardize
  by_cases hw : isWord l = true
  · rw [if_pos hw]
    have h9 := (isWord_iff.1 hw).1
    refine downTo (P := fun i => Ev (fun k => spec_StandardizeWord.l0 k l ((List.range i).map (placeOf l)) (i : Int)) (places l)) l.length ?_ ?_ 0 (by omega)
    · refine Ev.step (fun k => by rw [spec_StandardizeWord.l0]) ?_
      refine ev_neg (by omega) (Ev.step (fun k => by rw [spec_StandardizeWord.j1]) ?_)
      exact ev_neg (by simp) (ev_val rfl)
    · intro i hi ih
      refine Ev.step (fun k => by rw [spec_StandardizeWord.l0]) ?_
      refine ev_pos (by omega) (Ev.bind (spec_IsWord_ev l hl) (Ev.step (fun k => by rw [spec_StandardizeWord.j1]) ?_))
      refine ev_pos hw (spec_Stand_l1 l h9 _ (by simp; omega) i hi _ ?_)
      rw [← range_snoc]; exact ih
  · rw [if_neg hw]
    refine Ev.step (fun k => by rw [spec_StandardizeWord.l0]) ?_
    refine ev_ite (fun _ => Ev.bind (spec_IsWord_ev l hl) (Ev.step (fun k => by rw [spec_StandardizeWord.j1]) ?_)) (fun _ => Ev.step (fun k => by rw [spec_StandardizeWord.j1]) ?_)
    · exact ev_neg hw (ev_val rfl)
    · exact ev_neg (by simp) (ev_val rfl)
theorem impl_Stand_l1 (l : List Int) (hl : l.length ≤ 9) (acc : List Int) (ha : acc.length ≤ 9) (i : Nat) (hi : i < l.length) (r : List Int)
    (hr : Ev (fun k => impl_StandardizeWord.l0 k l (acc ++ [placeOf l i]) l (l.length : Int) ((i + 1 : Nat) : Int)) r) :
    Ev (fun k => impl_StandardizeWord.l1 k l acc (i : Int) (rd l (i : Int)) 1 l (l.length : Int) (i : Int) l (l.length : Int) 0) r := by
  refine downTo (P := fun j => Ev (fun k => impl_StandardizeWord.l1 k l acc (i : Int) (rd l (i : Int)) ((1 + placeTo l i j : Nat) : Int) l (l.length : Int) (i : Int) l (l.length : Int) (j : Int)) r) l.length ?_ ?_ 0 (by omega)
  · refine Ev.step (fun k => by rw [impl_StandardizeWord.l1]) ?_
    refine ev_neg (by omega) (ev_pos (by omega) ?_)
    rw [wrap_succ (by omega)]
    exact hr
  · intro j hj ih
    have hle := placeTo_le' l i j
    rw [placeTo] at ih
    refine Ev.step (fun k => by rw [impl_StandardizeWord.l1]) ?_
    refine ev_pos (by omega) (ev_pos (by omega) (ev_pos (by omega) (ev_ite (fun h1 => ?_) (fun h1 => ev_ite (fun h2 => ev_ite (fun h3 => ?_) (fun h3 => ?_)) (fun h2 => ?_)))))
    · rw [if_pos (.inl h1)] at ih
      rw [wrap_succ (by omega), wrap_succ (by omega)]
      exact ih
    · rw [if_pos (.inr ⟨h2, by omega⟩)] at ih
      rw [wrap_succ (by omega), wrap_succ (by omega)]
      exact ih
    · rw [if_neg (by omega)] at ih
      rw [wrap_succ (by omega)]
      exact ih
    · rw [if_neg (by omega)] at ih
      rw [wrap_succ (by omega)]
      exact ih
theorem impl_StandardizeWord_ev (l : List Int) (hl : l.length ≤ 1048576) : Ev (fun k => impl_StandardizeWord.f k l) (standardize l) := by
  unfold impl_StandardizeWord.f standardize
  refine ev_bindc (impl_IsWord_eq l) (ev_ite (fun hw => ?_) (fun hw => ev_val (by rw [if_neg hw])))
  rw [if_pos hw]
  have h9 := (isWord_iff.1 hw).1
  refine downTo (P := fun i => Ev (fun k => impl_StandardizeWord.l0 k l ((List.range i).map (placeOf l)) l (l.length : Int) (i : Int)) (places l)) l.length ?_ ?_ 0 (by omega)
  · refine Ev.step (fun k => by rw [impl_StandardizeWord.l0]) ?_
    exact ev_neg (by omega) (ev_val rfl)
  · intro i hi ih
    refine Ev.step (fun k => by rw [impl_StandardizeWord.l0]) ?_
    refine ev_pos (by omega) (ev_pos (by omega) (ev_pos (by omega) (impl_Stand_l1 l h9 _ (by simp; omega) i hi _ ?_)))
    rw [← range_snoc]; exact ih
end Go.Proofs.YtpandocpclecgaaGreatDoor.Q

set_option linter.unusedVariables false
set_option linter.unusedSimpArgs false
namespace Go.Proofs.YtpandocpclecgaaGreatDoor.Q
open Go.RowKit Go.Proofs.YtpandocpclecgaaGreatDoor.F Go.Proofs.YtpandocpclecgaaGreatDoorW.PrintWords Go.Proofs.YtpandocpclecgaaGreatDoorW.PrintLast Go.Proofs.YtpandocpclecgaaGreatDoorW.PrintMore
theorem l8Draw_ok {b : List Int} {i : Int} (h a c : Int) (hc : Cur b i) (ha : 0 ≤ a ∧ a ≤ 200) (hcc : c ≤ 256) : ∃ w i' h', Ev (fun k => spec_l8Draw.f k b i h a c) (w, i', h') ∧ (w.length : Int) ≤ a ∧ Cur b i' := by
  obtain ⟨n, i1, h1, e, n0, _, n1, hc1⟩ := below_ok h (a + 1) hc (by omega)
  have := n1 (by omega)
  obtain ⟨m, rfl⟩ : ∃ m : Nat, n = (m : Int) := ⟨n.toNat, by omega⟩
  have key : ∀ (d j : Nat) (w : List Int) (i h : Int), j + d = m → w.length = j → Cur b i → ∃ w' i' h', Ev (fun k => spec_l8Draw.l0 k c w (m : Int) (j : Int) b i h) (w', i', h') ∧ w'.length = m ∧ Cur b i' := by
    intro d
    induction d with
    | zero =>
      intro j w i h hj hw hc
      exact ⟨w, i, h, Ev.step (fun k => by rw [spec_l8Draw.l0]) (ev_neg (by omega) (ev_val rfl)), by omega, hc⟩
    | succ d ih =>
      intro j w i h hj hw hc
      obtain ⟨x, i2, h2, e2, _, _, _, hc2⟩ := below_ok h c hc hcc
      obtain ⟨w', i', h', e3, l3, hc3⟩ := ih (j + 1) (w ++ [wrap64 (1 + x)]) i2 h2 (by omega) (by simp [hw]) hc2
      refine ⟨w', i', h', Ev.step (fun k => by rw [spec_l8Draw.l0]) (ev_pos (by omega) (ev_bindc e2 ?_)), l3, hc3⟩
      refine ev_pos (show w.length < 17592186044416 by omega) ?_
      rw [wrap_succ (by omega)]
      exact e3
  obtain ⟨w', i', h', e3, l3, hc3⟩ := key m 0 [] i1 h1 (by omega) rfl hc1
  refine ⟨w', i', h', ?_, by omega, hc3⟩
  unfold spec_l8Draw.f
  rw [wrap_id (by omega) (by omega)]
  exact ev_bindc e e3
theorem l8Word_ok {b : List Int} {i : Int} (h : Int) (hc : Cur b i) : ∃ w i' h', Ev (fun k => spec_l8Word.f k b i h) (w, i', h') ∧ w.length ≤ 9 ∧ Cur b i' := by
  obtain ⟨n, i1, h1, e1, n0, _, n1, hc1⟩ := below_ok h 4 hc (by omega)
  have := n1 (by omega)
  obtain ⟨w, i2, h2, e2, l2, hc2⟩ := l8Draw_ok h1 7 (2 + n) hc1 (by omega) (by omega)
  obtain ⟨x, i3, h3, e3, hc3⟩ := once_ok h2 3 hc2 (by omega)
  have e2' : Ev (fun k => spec_l8Draw.f k b i1 h1 7 (wrap64 (2 + n))) (w, i2, h2) := by rw [wrap_id (by omega) (by omega)]; exact e2
  cases x with
  | true => exact ⟨standardize w, i3, h3, by unfold spec_l8Word.f; exact ev_bindc e1 (Ev.bind e2' (ev_bindc e3 (ev_pos rfl (Ev.bind (spec_StandardizeWord_ev w (by omega)) (ev_val rfl))))), standardize_le w, hc3⟩
  | false => exact ⟨w, i3, h3, by unfold spec_l8Word.f; exact ev_bindc e1 (Ev.bind e2' (ev_bindc e3 (ev_neg (by simp) (ev_val rfl)))), by omega, hc3⟩
theorem l8Bent_ok {b : List Int} {i : Int} (h : Int) (hc : Cur b i) : ∃ w i' h', Ev (fun k => spec_l8Bent.f k b i h) (w, i', h') ∧ w.length ≤ 10 ∧ Cur b i' := by
  obtain ⟨w, i1, h1, e1, l1, hc1⟩ := l8Word_ok h hc
  obtain ⟨n, i2, h2, e2, _, _, _, hc2⟩ := below_ok h1 14 hc1 (by omega)
  by_cases n0 : n = 0
  · obtain ⟨x, i3, h3, e3, _, hc3⟩ := pick_ok h2 [0, 10, -1, 9] hc2 (by simp) (by simp)
    exact ⟨w ++ [x], i3, h3, by unfold spec_l8Bent.f; exact Ev.bind e1 (ev_bindc e2 (ev_pos n0 (ev_bindc e3 (ev_pos (by show w.length < _; omega) (ev_val rfl))))), by simp; omega, hc3⟩
  · by_cases n1 : n = 1
    · have key : ∀ (d : Nat) (v : List Int), v.length + d = 10 → ∃ w', Ev (fun k => spec_l8Bent.l0 k v b i2 h2) (w', i2, h2) ∧ w'.length = 10 := by
        intro d
        induction d with
        | zero => intro v hv; exact ⟨v, Ev.step (fun k => by rw [spec_l8Bent.l0]) (ev_neg (by omega) (ev_val rfl)), by omega⟩
        | succ d ih =>
          intro v hv
          obtain ⟨w', e, l⟩ := ih (v ++ [1]) (by simp; omega)
          exact ⟨w', Ev.step (fun k => by rw [spec_l8Bent.l0]) (ev_pos (by omega) (ev_pos (by omega) e)), l⟩
      obtain ⟨w', e, l⟩ := key (10 - w.length) w (by omega)
      exact ⟨w', i2, h2, by unfold spec_l8Bent.f; exact Ev.bind e1 (ev_bindc e2 (ev_neg n0 (ev_pos n1 e))), by omega, hc2⟩
    · exact ⟨w, i2, h2, by unfold spec_l8Bent.f; exact Ev.bind e1 (ev_bindc e2 (ev_neg n0 (ev_neg n1 (ev_val rfl)))), by omega, hc2⟩
end Go.Proofs.YtpandocpclecgaaGreatDoor.Q

set_option linter.unusedVariables false
set_option linter.unusedSimpArgs false
namespace Go.Proofs.YtpandocpclecgaaGreatDoor.Q
open Go.RowKit Go.Proofs.YtpandocpclecgaaGreatDoor.F Go.Proofs.YtpandocpclecgaaGreatDoorW.PrintWords Go.Proofs.YtpandocpclecgaaGreatDoorW.PrintLast Go.Proofs.YtpandocpclecgaaGreatDoorW.PrintMore
theorem flatten_bulk : ∀ (m : List (List Int)), m.flatten.length = bulk m
  | [] => rfl
  | r :: m => by rw [List.flatten_cons, List.length_append, flatten_bulk m]; rfl
end Go.Proofs.YtpandocpclecgaaGreatDoor.Q

set_option linter.unusedVariables false
set_option linter.unusedSimpArgs false
namespace Go.Proofs.YtpandocpclecgaaGreatDoor.Q
open Go.RowKit Go.Proofs.YtpandocpclecgaaGreatDoor.F Go.Proofs.YtpandocpclecgaaGreatDoorW.PrintWords Go.Proofs.YtpandocpclecgaaGreatDoorW.PrintLast Go.Proofs.YtpandocpclecgaaGreatDoorW.PrintMore
theorem spec_ReadingWord_l0 (n : List Int) (m : List (List Int)) (hn : n.length ≤ 1048576) (hm : m.length ≤ 1048576) (hr : ∀ r ∈ m, r.length ≤ 1048576) (ht : isTab n m = true) :
    ∀ (j : Nat) (xs : List Int), j ≤ m.length → xs.length + (m.take j).flatten.length ≤ 4194304 → Ev (fun k => spec_ReadingWord.l0 k xs ((j : Int) - 1) n m) (xs ++ (m.take j).reverse.flatten)
  | 0, xs, _, _ => by
    refine Ev.step (fun k => by rw [spec_ReadingWord.l0]) ?_
    exact ev_neg (by omega) (ev_val (by simp))
  | j + 1, xs, hj, hb => by
    have e : m.take (j + 1) = m.take j ++ [m[j]] := List.take_succ_eq_append_getElem hj
    have ej : (((j + 1 : Nat) : Int) - 1) = (j : Int) := by omega
    have er : rd_L2 m (j : Int) = m[j] := by unfold rd_L2; rw [Int.toNat_natCast, List.getD_eq_getElem?_getD, List.getElem?_eq_getElem hj]; rfl
    rw [e, List.flatten_append, List.length_append] at hb
    have e1 : [m[j]].flatten.length = m[j].length := by simp
    rw [e1] at hb
    rw [ej]
    refine Ev.step (fun k => by rw [spec_ReadingWord.l0]) ?_
    refine ev_pos (by omega) (Ev.bind (spec_IsTableau_ev n m hn hm hr) (ev_pos ht (ev_pos (by omega) (ev_pos (by omega) ?_))))
    rw [er, wrap_id (by omega) (by omega)]
    refine ev_pos (by omega) ?_
    have h := spec_ReadingWord_l0 n m hn hm hr ht j (xs ++ m[j]) (by omega) (by rw [List.length_append]; omega)
    rw [e, List.reverse_append, List.flatten_append]
    simpa using h
theorem spec_ReadingWord_ev (n : List Int) (m : List (List Int)) (hn : n.length ≤ 1048576) (hm : m.length ≤ 1048576) (hb : bulk m ≤ 1048576) : Ev (fun k => spec_ReadingWord.f k n m) (if isTab n m = true then readAll m else []) := by
  have hr : ∀ r ∈ m, r.length ≤ 1048576 := fun r h => by have := bulk_mem h; omega
  unfold spec_ReadingWord.f
  rw [wrap_id (by omega) (by omega)]
  by_cases ht : isTab n m = true
  · rw [if_pos ht]
    have h := spec_ReadingWord_l0 n m hn hm hr ht m.length [] (Nat.le_refl _) (by rw [List.take_length, flatten_bulk]; simp; omega)
    rw [List.take_length, List.nil_append] at h
    exact h
  · rw [if_neg ht]
    refine Ev.step (fun k => by rw [spec_ReadingWord.l0]) ?_
    refine ev_ite (fun _ => ?_) (fun _ => ev_val rfl)
    exact Ev.bind (spec_IsTableau_ev n m hn hm hr) (ev_neg ht (ev_val rfl))
theorem impl_ReadingWord_ev (n : List Int) (m : List (List Int)) (hn : n.length ≤ 1048576) (hm : m.length ≤ 1048576) (hb : bulk m ≤ 1048576) : Ev (fun k => impl_ReadingWord.f k n m) (if isTab n m = true then readAll m else []) := by
  have hr : ∀ r ∈ m, r.length ≤ 1048576 := fun r h => by have := bulk_mem h; omega
  unfold impl_ReadingWord.f
  refine Ev.bind (impl_IsTableau_ev n m hn hm hr) (ev_ite (fun h => ?_) (fun h => ?_))
  · rw [if_pos h]
    refine ev_pos ?_ (ev_val rfl)
    have h1 := Nat.mul_le_mul hm (show m.flatten.length ≤ 1048576 by rw [flatten_bulk]; exact hb)
    omega
  · rw [if_neg h]
    exact ev_val rfl
theorem readAll_bulk (m : List (List Int)) : (readAll m).length = bulk m := by
  unfold readAll
  rw [← flatten_bulk, List.length_flatten, List.length_flatten, List.map_reverse, List.sum_reverse]
end Go.Proofs.YtpandocpclecgaaGreatDoor.Q

set_option linter.unusedVariables false
set_option linter.unusedSimpArgs false
namespace Go.Proofs.YtpandocpclecgaaGreatDoor.Q
open Go.RowKit Go.Proofs.YtpandocpclecgaaGreatDoor.F Go.Proofs.YtpandocpclecgaaGreatDoorW.PrintWords Go.Proofs.YtpandocpclecgaaGreatDoorW.PrintLast Go.Proofs.YtpandocpclecgaaGreatDoorW.PrintMore
def tx (x : List Int) : ByteArray := strOfNums (x.map (fun v => 48 + v))
theorem tx_size (x : List Int) : (tx x).size = x.length := by unfold tx; rw [strOfNums_size, List.length_map]
theorem str_append (a b : List Int) : strOfNums a ++ strOfNums b = strOfNums (a ++ b) := by
  apply ByteArray.ext
  simp [strOfNums, ByteArray.data_append]
theorem tx_append (a b : List Int) : tx a ++ tx b = tx (a ++ b) := by unfold tx; rw [str_append, List.map_append]
theorem tx_nil : (⟨#[]⟩ : ByteArray) = tx [] := rfl
def wordText (x : List Int) : ByteArray := if isWord x then (if x.length = 0 then ⟨#[45]⟩ else tx x) else ⟨#[]⟩
theorem spec_FormatInt_ev (v : Int) (h : 1 ≤ v ∧ v ≤ 9) : Ev (fun k => spec_FormatInt.f k v) (tx [v]) := by
  have e1 : Int.tmod v 10 = v := Int.tmod_eq_of_lt (by omega) (by omega)
  have e2 : Int.tdiv v 10 = 0 := by rw [Int.tdiv_eq_ediv_of_nonneg (by omega)]; omega
  have e3 : strOfNums [(wrap64 (48 + v)) % 256] = tx [v] := by
    rw [wrap_id (by omega) (by omega), Int.emod_eq_of_lt (by omega) (by omega)]
    rfl
  unfold spec_FormatInt.f
  rw [decide_eq_false (by omega : ¬ v < 0)]
  refine ev_neg (by omega) ?_
  refine Ev.step (fun k => by rw [spec_FormatInt.l0]) ?_
  rw [e1, e2]
  refine ev_neg (by omega) (ev_neg (by omega) (ev_bindc rfl ?_))
  rw [e3, tx_nil, tx_append]
  refine ev_pos (by rw [tx_size, tx_size, List.length_singleton, List.length_nil]; omega) ?_
  refine Ev.step (fun k => by rw [spec_FormatInt.l0]) ?_
  exact ev_pos (wrap_id (by decide) (by decide)) (ev_neg (by simp) (ev_val rfl))
theorem spec_text_l0 (x : List Int) (h9 : ∀ v ∈ x, 1 ≤ v ∧ v ≤ 9) (hl : x.length ≤ 9) : ∀ (d i : Nat), i + d = x.length → Ev (fun k => spec_WordText.l0 k x (tx (x.take i)) (i : Int)) (tx x)
  | 0, i, hi => by
    refine Ev.step (fun k => by rw [spec_WordText.l0]) ?_
    exact ev_neg (by omega) (ev_val (by rw [List.take_of_length_le (by omega)]))
  | d + 1, i, hi => by
    have hlt : i < x.length := by omega
    have hm := h9 _ (rd_mem x i hlt)
    refine Ev.step (fun k => by rw [spec_WordText.l0]) ?_
    refine ev_pos (by omega) (ev_pos (by omega) (Ev.bind (spec_FormatInt_ev _ hm) (ev_pos (by rw [tx_size, tx_size, List.length_take, List.length_singleton]; omega) ?_)))
    rw [tx_append, ← take_rd x i hlt, wrap_succ (by omega)]
    exact spec_text_l0 x h9 hl d (i + 1) (by omega)
theorem spec_WordText_ev (x : List Int) (hl : x.length ≤ 1048576) : Ev (fun k => spec_WordText.f k x) (wordText x) := by
  unfold spec_WordText.f wordText
  refine Ev.bind (spec_IsWord_ev x hl) (ev_ite (fun h => ?_) (fun h => ev_val ?_))
  · rw [if_pos h]
    obtain ⟨h1, h2⟩ := isWord_iff.1 h
    refine ev_ite (fun h0 => ev_val ?_) (fun h0 => ?_)
    · rw [if_pos (by omega)]
    · rw [if_neg (by omega), tx_nil]
      exact spec_text_l0 x h2 h1 x.length 0 (by omega)
  · rw [if_neg h]
theorem impl_FormatInt_eq (v : Int) (h : 1 ≤ v ∧ v ≤ 9) : impl_FormatInt.f v = some (tx [v]) := by
  unfold impl_FormatInt.f
  rw [if_pos (by omega), Lib.decDigits, dif_pos (by omega)]
  have e : (48 + v).toNat = 48 + v.toNat := by omega
  simp only [tx, List.map_cons, List.map_nil, strOfNums, e]
theorem join_nosep (ls : List (List UInt8)) : Lib.join ls [] = ls.flatten := by
  cases ls with
  | nil => rfl
  | cons x r =>
    rw [Lib.join_cons, Lib.joinTail, List.flatten_cons]
    congr 2
    simp
theorem tx_join (x : List Int) : ((x.map (fun v => tx [v])).map (·.data.toList)).flatten = (tx x).data.toList := by
  induction x with
  | nil => rfl
  | cons v x ih =>
    rw [List.map_cons, List.map_cons, List.flatten_cons, ih]
    rfl
theorem impl_joined_l0 (x : List Int) (h9 : ∀ v ∈ x, 1 ≤ v ∧ v ≤ 9) (hl : x.length ≤ 9) : ∀ (d i : Nat), i + d = x.length → Ev (fun k => impl_joined.l0 k ⟨#[]⟩ ((x.take i).map (fun v => tx [v])) x (x.length : Int) (i : Int)) (tx x)
  | 0, i, hi => by
    refine Ev.step (fun k => by rw [impl_joined.l0]) ?_
    have e : impl_Join.f ((x.take i).map (fun v => tx [v])) ⟨#[]⟩ = some (tx x) := by
      unfold impl_Join.f
      rw [List.take_of_length_le (by omega), join_nosep, tx_join]
      rw [if_pos ⟨by rw [List.length_map]; omega, by
        have := tx_size x
        simp only [ByteArray.size, Array.length_toList] at this ⊢
        omega⟩]
    exact ev_neg (by omega) (ev_bindc e (ev_val rfl))
  | d + 1, i, hi => by
    have hlt : i < x.length := by omega
    have hm := h9 _ (rd_mem x i hlt)
    refine Ev.step (fun k => by rw [impl_joined.l0]) ?_
    refine ev_pos (by omega) (ev_pos (by omega) (ev_pos (by omega) (ev_bindc (impl_FormatInt_eq _ hm) (ev_pos (by rw [List.length_map, List.length_take]; omega) ?_))))
    rw [wrap_succ (by omega)]
    have := impl_joined_l0 x h9 hl d (i + 1) (by omega)
    rw [take_rd x i hlt, List.map_append, List.map_cons, List.map_nil] at this
    exact this
theorem impl_WordText_ev (x : List Int) : Ev (fun k => impl_WordText.f k x) (wordText x) := by
  unfold impl_WordText.f wordText
  refine ev_bindc (impl_IsWord_eq x) (ev_ite (fun h => ?_) (fun h => ev_val ?_))
  · rw [if_pos h]
    obtain ⟨h1, h2⟩ := isWord_iff.1 h
    refine ev_ite (fun h0 => ev_val ?_) (fun h0 => ?_)
    · rw [if_pos (by omega)]
    · rw [if_neg (by omega)]
      unfold impl_joined.f
      refine Ev.bind (r := tx x) (impl_joined_l0 x h2 h1 x.length 0 (by omega)) (ev_val rfl)
  · rw [if_neg h]
end Go.Proofs.YtpandocpclecgaaGreatDoor.Q

set_option linter.unusedVariables false
set_option linter.unusedSimpArgs false
namespace Go.Proofs.YtpandocpclecgaaGreatDoor.Q
open Go.RowKit Go.Proofs.YtpandocpclecgaaGreatDoor.F Go.Proofs.YtpandocpclecgaaGreatDoorW.PrintWords Go.Proofs.YtpandocpclecgaaGreatDoorW.PrintLast Go.Proofs.YtpandocpclecgaaGreatDoorW.PrintMore
theorem l1Pick_ok {b : List Int} {i : Int} (h : Int) (list : List ByteArray) (hc : Cur b i) (hl : 0 < list.length) (hl2 : list.length ≤ 256) : ∃ t i' h', spec_l1Pick.f b i h list = some (t, i', h') ∧ t ∈ list ∧ Cur b i' := by
  obtain ⟨x, i', h', e, x0, _, x1, hc'⟩ := below_ok h (list.length : Int) hc (by omega)
  have := x1 (by omega)
  unfold spec_l1Pick.f
  rw [e]
  simp only [Option.bind_some]
  rw [if_pos x0, if_pos this]
  refine ⟨_, _, _, rfl, ?_, hc'⟩
  unfold rdOf
  have hlt : x.toNat < list.length := by omega
  rw [List.getD_eq_getElem?_getD, List.getElem?_eq_getElem hlt]
  exact List.getElem_mem hlt
theorem l1Turned_ok {b : List Int} {i : Int} (h : Int) (a : ByteArray) (list : List ByteArray) (hc : Cur b i) (ha : a.size ≤ 255) (hl : 0 < list.length) (hl2 : list.length ≤ 256) (hs : ∀ t ∈ list, t.size ≤ 2) :
    ∃ t i' h', spec_l1Turned.f b i h a list = some (t, i', h') ∧ t.size ≤ a.size + 2 ∧ Cur b i' := by
  obtain ⟨x, i1, h1, e1, x0, _, x1, hc1⟩ := below_ok h ((a.size : Int) + 1) hc (by omega)
  have x1 := x1 (by omega)
  obtain ⟨y, i2, h2, e2, _, _, _, hc2⟩ := below_ok h1 6 hc1 (by omega)
  have ew : wrap64 ((a.size : Int) + 1) = (a.size : Int) + 1 := wrap_id (by omega) (by omega)
  have hx : x ≤ (a.size : Int) := by omega
  have s1 : (a.extract 0 x.toNat).size = x.toNat := by rw [ByteArray.size_extract]; omega
  have s2 : (a.extract x.toNat a.size).size = a.size - x.toNat := by rw [ByteArray.size_extract, Nat.min_self]
  unfold spec_l1Turned.f
  rw [ew, e1]
  simp only [Option.bind_some]
  rw [e2]
  simp only [Option.bind_some]
  by_cases y0 : y = 0
  · obtain ⟨t, i3, h3, e3, ht, hc3⟩ := l1Pick_ok h2 list hc2 hl hl2
    have := hs t ht
    rw [if_pos y0, if_pos x0, if_pos hx, e3]
    simp only [Option.bind_some]
    rw [if_pos (by rw [s1]; omega), if_pos (by rw [ByteArray.size_append, s1, s2]; omega)]
    refine ⟨_, _, _, rfl, ?_, hc3⟩
    rw [ByteArray.size_append, ByteArray.size_append, s1, s2]
    omega
  · rw [if_neg y0]
    by_cases y1 : y = 1
    · rw [if_pos y1, if_pos x0, if_pos hx]
      exact ⟨_, _, _, rfl, by rw [s1]; omega, hc2⟩
    · rw [if_neg y1]
      exact ⟨_, _, _, rfl, by omega, hc2⟩
theorem bulk_small {k : Nat} : ∀ {m : List (List Int)}, (∀ r ∈ m, r.length ≤ k) → bulk m ≤ m.length * k
  | [], _ => by simp [bulk]
  | r :: m, h => by
    have h1 := h r (by simp)
    have h2 := bulk_small (m := m) (fun q hq => h q (by simp [hq]))
    rw [List.length_cons, Nat.add_mul, Nat.one_mul]
    simp only [bulk]
    omega
theorem drawWord_ok (b : List Int) (hb : b.length ≤ 1048576) : ∃ x, Ev (fun k => spec_DrawStandardizeWord.f k b) x ∧ x.length ≤ 10 := by
  obtain ⟨h, e0⟩ := new_ok b hb
  obtain ⟨x, i1, h1, e1, l1, _⟩ := l8Bent_ok h (cur_start hb)
  exact ⟨x, by unfold spec_DrawStandardizeWord.f; exact Ev.bind e0 (Ev.bind e1 (ev_val rfl)), l1⟩
theorem drawLattice_ok (b : List Int) (hb : b.length ≤ 1048576) : ∃ x, Ev (fun k => spec_DrawIsLattice.f k b) x ∧ x.length ≤ 1000 := by
  obtain ⟨h, e0⟩ := new_ok b hb
  obtain ⟨q, i1, h1, e1, hc1⟩ := once_ok h 3 (cur_start hb) (by omega)
  cases q with
  | true =>
    obtain ⟨m, i2, h2, e2, g1, g2, _⟩ := l18Highest_ok h1 hc1
    have hbm := bulk_small g2
    have e3 := spec_ReadingWord_ev [] m (by simp) (by omega) (by omega)
    refine ⟨_, by unfold spec_DrawIsLattice.f; exact Ev.bind e0 (ev_bindc e1 (ev_pos rfl (Ev.bind e2 (Ev.bind e3 (ev_val rfl))))), ?_⟩
    split
    · rw [readAll_bulk]; omega
    · simp
  | false =>
    obtain ⟨x, i2, h2, e2, l2, _⟩ := l8Bent_ok h1 hc1
    exact ⟨x, by unfold spec_DrawIsLattice.f; exact Ev.bind e0 (ev_bindc e1 (ev_neg (by simp) (Ev.bind e2 (ev_val rfl)))), by omega⟩
theorem drawComplement_ok (b : List Int) (hb : b.length ≤ 1048576) : ∃ x n, Ev (fun k => spec_DrawComplementWord.f k b) (x, n) ∧ x.length ≤ 10 := by
  obtain ⟨h, e0⟩ := new_ok b hb
  obtain ⟨x, i1, h1, e1, l1, hc1⟩ := l8Bent_ok h (cur_start hb)
  obtain ⟨n, i2, h2, e2, _, _, _, _⟩ := below_ok h1 11 hc1 (by omega)
  exact ⟨x, n, by unfold spec_DrawComplementWord.f; exact Ev.bind e0 (Ev.bind e1 (ev_bindc e2 (ev_val rfl))), l1⟩
theorem wordText_size (x : List Int) : (wordText x).size ≤ 9 := by
  unfold wordText
  by_cases h : isWord x = true
  · rw [if_pos h]
    by_cases h0 : x.length = 0
    · rw [if_pos h0]; decide
    · rw [if_neg h0, tx_size]; exact (isWord_iff.1 h).1
  · rw [if_neg h]; decide
theorem drawParse_ok (b : List Int) (hb : b.length ≤ 1048576) : ∃ s, Ev (fun k => spec_DrawParseWord.f k b) s ∧ s.size ≤ 1000 := by
  obtain ⟨h, e0⟩ := new_ok b hb
  obtain ⟨x, i1, h1, e1, l1, hc1⟩ := l8Word_ok h (cur_start hb)
  have e2 := spec_WordText_ev x (by omega)
  have hw := wordText_size x
  obtain ⟨t, i3, h3, e3, ht, _⟩ := l1Turned_ok h1 (wordText x) [⟨#[49]⟩, ⟨#[48]⟩, ⟨#[45]⟩, ⟨#[57]⟩] hc1 (by omega) (by simp) (by simp) (by decide)
  exact ⟨t, by unfold spec_DrawParseWord.f; exact Ev.bind e0 (Ev.bind e1 (Ev.bind e2 (ev_bindc e3 (ev_val rfl)))), by omega⟩
end Go.Proofs.YtpandocpclecgaaGreatDoor.Q

set_option linter.unusedVariables false
set_option linter.unusedSimpArgs false
namespace Go.Proofs.YtpandocpclecgaaGreatDoor.Q
open Go.RowKit Go.Proofs.YtpandocpclecgaaGreatDoor.F Go.Proofs.YtpandocpclecgaaGreatDoorW.PrintWords Go.Proofs.YtpandocpclecgaaGreatDoorW.PrintLast Go.Proofs.YtpandocpclecgaaGreatDoorW.PrintMore
structure Ob where
  ok : Nat → Prop
  P : World → Prop
def Firm (o : Ob) : Prop := ∀ W W' : World, o.P W → (∀ k, o.ok k → k < W.heap.size → W'.heap[k]? = W.heap[k]?) → o.P W'
structure St (w W : World) (L : List Ob) : Prop where
  below : Below w.heap.size w W
  own : ∀ o ∈ L, (∀ k, o.ok k → w.heap.size ≤ k ∧ k < W.heap.size) ∧ o.P W ∧ Firm o
  apart : L.Pairwise (fun a b => ∀ k, a.ok k → ¬ b.ok k)
def obR {α : Type} (d : Kd α) (t : Nat) (w : World) (ok : Nat → Prop) (v : Value) (xs : List α) : Ob := ⟨ok, fun W => Kd.R d t W w.heap.size ok v xs⟩
def obS {α : Type} (d : Kd α) (t : Nat) (w : World) (ok : Nat → Prop) (v : Value) (xs : List α) : Ob := ⟨ok, fun W => Kd.S d t W w.heap.size ok v xs⟩
section
variable {α β : Type} {d : Kd α} {d' : Kd β} {t t' : Nat} {w W W' : World} {ok ok' okq : Nat → Prop} {v v' : Value} {xs : List α} {ys : List β} {L L' : List Ob} {o o' : Ob}
theorem firmR : Firm (obR d t w ok v xs) := fun _ _ h hm => Kd.R_step h hm
theorem firmS : Firm (obS d t w ok v xs) := fun _ _ h hm => Kd.S_step h hm
theorem St.start (w : World) : St w w [] := ⟨Below.refl _ _, fun _ h => by simp at h, List.Pairwise.nil⟩
theorem St.quiet (h : St w W L) (hb : Below W.heap.size W W') : St w W' L := by
  have hs := h.below.size
  refine ⟨below_then h.below hs hb, fun o ho => ?_, h.apart⟩
  obtain ⟨h1, h2, h3⟩ := h.own o ho
  exact ⟨fun k hk => ⟨(h1 k hk).1, Nat.lt_of_lt_of_le (h1 k hk).2 hb.size⟩, h3 W W' h2 (fun k _ hk => hb.block k hk), h3⟩
theorem St.drawn (h : St w W L) (hd : Drawn0 W W') : St w W' L := h.quiet hd.below
theorem St.add (h : St w W L) (hb : Below W.heap.size W W') (hn : ∀ k, o.ok k → W.heap.size ≤ k ∧ k < W'.heap.size) (hP : o.P W') (hf : Firm o) : St w W' (o :: L) := by
  have hq := h.quiet hb
  have hs := h.below.size
  refine ⟨hq.below, fun p hp => ?_, List.Pairwise.cons (fun p hp k hk hk2 => ?_) hq.apart⟩
  · rcases List.mem_cons.1 hp with rfl | hp
    · exact ⟨fun k hk => ⟨Nat.le_trans hs (hn k hk).1, (hn k hk).2⟩, hP, hf⟩
    · exact hq.own p hp
  · have := (h.own p hp).1 k hk2
    have := hn k hk
    omega
theorem St.addR (h : St w W L) (hb : Below W.heap.size W W') (hr : Kd.R d t W' W.heap.size ok v xs) : ∃ ok1, St w W' (obR d t w ok1 v xs :: L) :=
  ⟨_, h.add (o := obR d t w (fun k => W.heap.size ≤ k ∧ k < W'.heap.size) v xs) hb (fun _ hk => hk) (Kd.R_mono (Kd.R_lower (Kd.R_bound hr) h.below.size) (fun k hk => ⟨hk.2.1, hk.2.2.1⟩)) firmR⟩
theorem St.add2 (h : St w W L) (hb : Below W.heap.size W W') (hn : ∀ k, o.ok k → W.heap.size ≤ k ∧ k < W'.heap.size) (hP : o.P W') (hf : Firm o) (hn' : ∀ k, o'.ok k → W.heap.size ≤ k ∧ k < W'.heap.size) (hP' : o'.P W') (hf' : Firm o')
    (ha : ∀ k, o.ok k → ¬ o'.ok k) : St w W' (o :: o' :: L) := by
  have h1 := h.add hb hn' hP' hf'
  have hs := h.below.size
  refine ⟨h1.below, fun p hp => ?_, List.Pairwise.cons (fun p hp k hk hk2 => ?_) h1.apart⟩
  · rcases List.mem_cons.1 hp with rfl | hp
    · exact ⟨fun k hk => ⟨Nat.le_trans hs (hn k hk).1, (hn k hk).2⟩, hP, hf⟩
    · exact h1.own p hp
  · rcases List.mem_cons.1 hp with rfl | hp
    · exact ha k hk hk2
    · have := (h.own p hp).1 k hk2
      have := hn k hk
      omega
theorem St.addRS (hE : d.E = []) (h : St w W L) (hb : Below W.heap.size W W') (hr : Kd.R d t W' W.heap.size (fun _ => True) v xs) (hr' : Kd.S d' t' W' W.heap.size (fun k => some k ≠ v.ownBlock) v' ys) : ∃ ok1 ok2, St w W' (obR d t w ok1 v xs :: obS d' t' w ok2 v' ys :: L) := by
  have hs := h.below.size
  refine ⟨_, _, h.add2 (o := obR d t w (fun k => some k = v.ownBlock ∧ W.heap.size ≤ k ∧ k < W'.heap.size) v xs) (o' := obS d' t' w (fun k => some k ≠ v.ownBlock ∧ W.heap.size ≤ k ∧ k < W'.heap.size) v' ys) hb (fun _ hk => hk.2) ?_ firmR (fun _ hk => hk.2) ?_ firmS (fun _ hk hk2 => hk2.1 hk.1)⟩
  · exact Kd.R_mono (Kd.R_lower (Kd.R_bound (Kd.R_tight hE hr)) hs) (fun k hk => ⟨hk.1, hk.2.1, hk.2.2.1⟩)
  · exact Kd.S_mono (Kd.S_lower (Kd.S_bound hr') hs) (fun k hk => ⟨hk.1, hk.2.1, hk.2.2.1⟩)
theorem St.get (h : St w W L) (i : Nat) (hi : L[i]? = some o) : o.P W := (h.own o (List.mem_of_getElem? hi)).2.1
theorem St.mark (h : St w W L) (i : Nat) (hi : L[i]? = some o) (he : o'.ok = o.ok) (hf : Firm o') (hb : Below w.heap.size w W') (hk : Kept W W' o.ok) (hP : o'.P W') (hL : L.set i o' = L') : St w W' L' := by
  subst hL
  have hil := (List.getElem?_eq_some_iff.1 hi).1
  have hio := (List.getElem?_eq_some_iff.1 hi).2
  have hap : ∀ a b, a < L.length → (hb : b < L.length) → a ≠ b → ∀ x y, L[a]? = some x → L[b]? = some y → ∀ k, x.ok k → ¬ y.ok k := by
    intro a b ha hb hne x y hx hy k hxk hyk
    have hp := List.pairwise_iff_getElem.1 h.apart
    rcases Nat.lt_or_gt_of_ne hne with hlt | hlt
    · have := hp a b ha hb hlt k
      rw [List.getElem?_eq_getElem ha] at hx
      rw [List.getElem?_eq_getElem hb] at hy
      injection hx with hx; injection hy with hy
      rw [hx, hy] at this
      exact this hxk hyk
    · have := hp b a hb ha hlt k
      rw [List.getElem?_eq_getElem ha] at hx
      rw [List.getElem?_eq_getElem hb] at hy
      injection hx with hx; injection hy with hy
      rw [hx, hy] at this
      exact this hyk hxk
  refine ⟨hb, fun p hp => ?_, List.pairwise_iff_getElem.2 fun a b ha hb' hlt k => ?_⟩
  · obtain ⟨j, hj, rfl⟩ := List.mem_iff_getElem.1 hp
    rw [List.length_set] at hj
    by_cases hji : i = j
    · subst hji
      rw [List.getElem_set_self]
      have h1 := (h.own o (List.mem_of_getElem? hi)).1
      exact ⟨fun k hk' => ⟨(h1 k (he ▸ hk')).1, Nat.lt_of_lt_of_le (h1 k (he ▸ hk')).2 hk.1⟩, hP, hf⟩
    · rw [List.getElem_set_ne hji]
      obtain ⟨h1, h2, h3⟩ := h.own L[j] (List.getElem_mem hj)
      exact ⟨fun k hk' => ⟨(h1 k hk').1, Nat.lt_of_lt_of_le (h1 k hk').2 hk.1⟩, h3 W W' h2 (fun k hk' hlt => hk.2 k hlt (hap j i hj hil (Ne.symm hji) _ _ (List.getElem?_eq_getElem hj) hi k hk')), h3⟩
  · rw [List.length_set] at ha hb'
    have hx : ∀ j (hj : j < L.length) (hj' : j < (L.set i o').length), ((L.set i o')[j]).ok = (L[j]).ok := by
      intro j hj hj'
      by_cases hji : i = j
      · subst hji; rw [List.getElem_set_self, he, hio]
      · rw [List.getElem_set_ne hji]
    rw [hx a ha, hx b hb']
    exact List.pairwise_iff_getElem.1 h.apart a b ha hb' hlt k
def Reads (d : Kd α) (W : World) (v : Value) (xs : List α) : Prop := ∃ A c, v = .slice A xs.length c ∧ xs.length ≤ c ∧ d.C W A xs.length xs
theorem St.readR (h : St w W L) (i : Nat) (hi : L[i]? = some (obR d t w ok v xs)) : Reads d W v xs := Kd.R_reads (h.get i hi)
theorem St.readS (h : St w W L) (i : Nat) (hi : L[i]? = some (obS d t w ok v xs)) : Reads d W v xs := Kd.R_reads (Kd.S_R (h.get i hi))
end
end Go.Proofs.YtpandocpclecgaaGreatDoor.Q

set_option linter.unusedVariables false
set_option linter.unusedSimpArgs false
namespace Go.Proofs.YtpandocpclecgaaGreatDoor.Q
open Go.RowKit Go.Proofs.YtpandocpclecgaaGreatDoor.F Go.Proofs.YtpandocpclecgaaGreatDoorW.PrintWords Go.Proofs.YtpandocpclecgaaGreatDoorW.PrintLast Go.Proofs.YtpandocpclecgaaGreatDoorW.PrintMore
section
variable {w W W' : World} {L L' : List Ob} {o : Ob}
theorem St.drop (h : St w W (o :: L)) : St w W L := ⟨h.below, fun p hp => h.own p (List.mem_cons_of_mem _ hp), (List.pairwise_cons.1 h.apart).2⟩
def obB (b : Nat) (cs : Array Value) (t : Nat) : Ob := ⟨fun k => k = b, fun W => W.heap[b]? = some (.cells cs t (0, 0))⟩
theorem firmB {b : Nat} {cs : Array Value} {t : Nat} : Firm (obB b cs t) := fun _ _ h hm => (hm b rfl (blk_lt h)).trans h
theorem St.cellB (h : St w W L) {b t : Nat} {cs : Array Value} (i : Nat) (hi : L[i]? = some (obB b cs t)) (j : Nat) {v : Value} (hv : cs[j]? = some v) : W.cell? ⟨b, j, none⟩ = some v := (blk_cell (show W.heap[b]? = some (.cells cs t (0, 0)) from h.get i hi) j).trans hv
theorem St.box (h : St w W L) (cs : Array Value) (t : Nat) : St w (W.alloc (.cells cs t (0, 0))) (obB W.heap.size cs t :: L) := by
  have e1 : (W.alloc (.cells cs t (0, 0))).heap.size = W.heap.size + 1 := by show (W.heap.push _).size = _; exact Array.size_push ..
  refine h.add (o := obB W.heap.size cs t) (below_alloc (Below.refl _ _) _) (fun k hk => ?_) ?_ firmB
  · have h1 : k = W.heap.size := hk
    omega
  · show (W.heap.push _)[W.heap.size]? = _
    exact Array.getElem?_push_size
end
end Go.Proofs.YtpandocpclecgaaGreatDoor.Q

set_option linter.unusedVariables false
set_option linter.unusedSimpArgs false
namespace Go.Proofs.YtpandocpclecgaaGreatDoor.Q
open Go.RowKit Go.Proofs.YtpandocpclecgaaGreatDoor.F Go.Proofs.YtpandocpclecgaaGreatDoorW.PrintWords Go.Proofs.YtpandocpclecgaaGreatDoorW.PrintLast Go.Proofs.YtpandocpclecgaaGreatDoorW.PrintMore
section
variable {w W w1 : World} {L : List Ob}
theorem St.redo {P P' : List Ob} (h : St w W (P ++ L)) (hK : Kept W w1 (fun k => ∃ p ∈ P, p.ok k)) (hB : Below w.heap.size w w1)
    (hP : ∀ o ∈ P', (∀ k, o.ok k → ((∃ p ∈ P, p.ok k) ∨ W.heap.size ≤ k) ∧ w.heap.size ≤ k ∧ k < w1.heap.size) ∧ o.P w1 ∧ Firm o) (ha : P'.Pairwise (fun a b => ∀ k, a.ok k → ¬ b.ok k)) : St w w1 (P' ++ L) := by
  obtain ⟨_, hL, hPL⟩ := List.pairwise_append.1 h.apart
  refine ⟨hB, fun o ho => ?_, List.pairwise_append.2 ⟨ha, hL, fun a haP b hb k hak hbk => ?_⟩⟩
  · rcases List.mem_append.1 ho with ho | ho
    · obtain ⟨h1, h2, h3⟩ := hP o ho
      exact ⟨fun k hk => (h1 k hk).2, h2, h3⟩
    · obtain ⟨h1, h2, h3⟩ := h.own o (List.mem_append_right _ ho)
      exact ⟨fun k hk => ⟨(h1 k hk).1, Nat.lt_of_lt_of_le (h1 k hk).2 hK.1⟩, h3 W w1 h2 (fun k hk hlt => hK.2 k hlt (fun ⟨p, hp, hpk⟩ => hPL p hp o ho k hpk hk)), h3⟩
  · rcases ((hP a haP).1 k hak).1 with ⟨p, hp, hpk⟩ | hnew
    · exact hPL p hp b hb k hpk hbk
    · have := ((h.own b (List.mem_append_right _ hb)).1 k hbk).2
      omega
theorem St.perm_ {L' : List Ob} (h : St w W L) (hp : List.Perm L L') : St w W L' :=
  ⟨h.below, fun o ho => h.own o (hp.mem_iff.2 ho), (hp.pairwise_iff (fun hab k hb ha => hab k ha hb)).1 h.apart⟩
theorem St.less {L' : List Ob} (h : St w W L) (hs : List.Sublist L' L) : St w W L' := ⟨h.below, fun p hp => h.own p (hs.subset hp), h.apart.sublist hs⟩
end
theorem St.redo1 {w W w1 : World} {L : List Ob} {o o' : Ob} (h : St w W L) (n : Nat) (hn : L[n]? = some o) (hK : Kept W w1 o.ok) (hB : Below w.heap.size w w1)
    (hP : (∀ k, o'.ok k → (o.ok k ∨ W.heap.size ≤ k) ∧ w.heap.size ≤ k ∧ k < w1.heap.size) ∧ o'.P w1 ∧ Firm o') : St w w1 (L.set n o') := by
  obtain ⟨hnl, hno⟩ := List.getElem?_eq_some_iff.1 hn
  have e0 : L = L.take n ++ o :: L.drop (n + 1) := by rw [← hno, ← List.drop_eq_getElem_cons hnl, List.take_append_drop]
  have e1 : List.Perm L ([o] ++ (L.take n ++ L.drop (n + 1))) := by
    have := List.perm_middle (a := o) (l₁ := L.take n) (l₂ := L.drop (n + 1))
    rwa [← e0] at this
  have e2 : List.Perm ([o'] ++ (L.take n ++ L.drop (n + 1))) (L.set n o') := by
    rw [List.set_eq_take_append_cons_drop, if_pos hnl]
    exact (List.perm_middle (a := o') (l₁ := L.take n) (l₂ := L.drop (n + 1))).symm
  refine St.perm_ (St.redo (St.perm_ h e1) (w1 := w1) (P' := [o']) ⟨hK.1, fun k hk hp => hK.2 k hk (fun ho => hp ⟨o, by simp, ho⟩)⟩ hB ?_ (List.pairwise_singleton _ _)) e2
  intro q hq
  obtain rfl := List.mem_singleton.1 hq
  exact ⟨fun k hk => ⟨(hP.1 k hk).1.imp (fun h1 => ⟨o, by simp, h1⟩) id, (hP.1 k hk).2⟩, hP.2⟩
section
variable {ops : Array Oper} {rest : List Oper} {oi : Oper} {a : Act} {Q : Exit → Act → World → Prop} {Kc : Act → World → Prop} {w W : World} {L : List Ob} {α : Type} {d : Kd α} {o0 : Ob} {ok : Nat → Prop} {v : Value} {xs : List α} {p : α} {cs : List Value} {e t : Nat}
theorem St.pushed {w1 : World} {v1 : Value} (h : St w W (o0 :: obS d e w ok v xs :: L)) (hS : Kd.S d e w1 w.heap.size (fun k => (ok k ∨ o0.ok k) ∨ W.heap.size ≤ k) v1 (xs ++ [p])) (hB : Below w.heap.size w w1) (hg : W.grownBy w1 v.ownBlock) : ∃ ok1, St w w1 (obS d e w ok1 v1 (xs ++ [p]) :: L) := by
  have hv := (Kd.S_R (show Kd.S d e W w.heap.size ok v xs from h.get 1 rfl)).1
  refine ⟨fun k => ((ok k ∨ o0.ok k) ∨ W.heap.size ≤ k) ∧ w.heap.size ≤ k ∧ k < w1.heap.size, St.redo (P := [o0, obS d e w ok v xs]) (P' := [obS d e w _ v1 (xs ++ [p])]) h ⟨hg.size, fun k hk hn => hg.block k hk (fun e2 => hn ⟨obS d e w ok v xs, by simp, hv k e2.symm⟩)⟩ hB ?_ (List.pairwise_singleton _ _)⟩
  intro q hq
  obtain rfl := List.mem_singleton.1 hq
  refine ⟨fun k hk => ⟨?_, hk.2⟩, Kd.S_mono (Kd.S_bound hS) (fun k hk => ⟨hk.1, hk.2.1, hk.2.2.1⟩), firmS⟩
  rcases hk.1 with (h1 | h1) | h1
  · exact .inl ⟨obS d e w ok v xs, by simp, h1⟩
  · exact .inl ⟨o0, by simp, h1⟩
  · exact .inr h1
theorem St.push (hgd : oi.guard = none) (s x : Operand) (ho : oi.op = .call { callee := .builtin .append, args := #[s, x], argTypes := #[t, t] }) (ht : (Tryz.prog).underlying t = some (.slice e)) (z : Value) (bytes : Nat) (hinfo : ((Tryz.prog).info? e).map (fun i => (i.zero, i.size, i.bytes)) = some (some z, d.sz, bytes)) (hz : z.cells.size = d.sz) (hs0 : 0 < d.sz) (hb0 : 0 < bytes)
    (h : St w W (o0 :: obS d e w ok v xs :: L)) (hs : a.eval s = v) (hx : a.eval x = .slice (some ⟨W.heap.size, 0, none⟩) 1 1) (hM : d.M W w.heap.size o0.ok p cs) (hl : (xs.length + 1) * bytes ≤ 140737488355328)
    (hk : ∀ v1 w1 ok1, St w w1 (obS d e w ok1 v1 (xs ++ [p]) :: L) → wpList Tryz.prog ops Q rest (a.put oi.dst v1) w1) :
    wpList Tryz.prog ops Q (oi :: rest) a (W.alloc (.cells cs.toArray e)) := by
  have hap : ∀ k, o0.ok k → ¬ ok k := (List.pairwise_cons.1 h.apart).1 (obS d e w ok v xs) (by simp)
  have hS : Kd.S d e W w.heap.size ok v xs := h.get 1 rfl
  have hlt : ∀ k, ok k → k < W.heap.size := fun k hk => ((h.own (obS d e w ok v xs) (by simp)).1 k hk).2
  have hlt0 : ∀ k, o0.ok k → k < W.heap.size := fun k hk => ((h.own o0 (by simp)).1 k hk).2
  refine Kd.S_append d (w0 := w) w.heap.size hgd s x t e z bytes ho ht hinfo hz hs0 hb0 v xs p cs (fun k => (ok k ∨ o0.ok k) ∨ W.heap.size ≤ k) o0.ok hs hx hM (fun k hk => ⟨.inl (.inr hk), fun e2 => hap k hk ((Kd.S_R hS).1 k e2.symm)⟩) (fun k hk => .inr hk) (Kd.S_mono hS (fun k hk => ⟨.inl (.inl hk), fun h2 => hap k h2 hk⟩)) h.below h.below.size hl ?_
  intro v1 w1 hS1 hB hg _
  obtain ⟨ok1, h1⟩ := St.pushed h hS1 hB hg
  exact hk v1 w1 ok1 h1
end
section
variable {w W : World} {L : List Ob} {ok : Nat → Prop} {v : Value} {xs : List (List Int)}
theorem St.lendS (h : St w W L) (n : Nat) (hn : L[n]? = some (obS (Kd.slice 3 (Kd.int .i64)) 24 w ok v xs)) (i : Nat) (hi : i < xs.length) {r : List Int} (hr : xs[i] = r) :
    ∃ g c A1 c1, v = .slice (some ⟨g, 0, none⟩) xs.length c ∧ w.heap.size ≤ g ∧ W.cell? ⟨g, i, none⟩ = some (.slice A1 r.length c1) ∧ W.frozen? ⟨g, i, none⟩ = false ∧ r.length ≤ c1 ∧ Reads (Kd.int .i64) W (.slice A1 r.length c1) r ∧
      (0 < r.length → ∃ g1, A1 = some ⟨g1, 0, none⟩ ∧ w.heap.size ≤ g1) ∧
      (∀ j g1, j < r.length → A1 = some ⟨g1, 0, none⟩ → W.cell? ⟨g1, j, none⟩ = some (.int .i64 (rd r (j : Int))) ∧ W.frozen? ⟨g1, j, none⟩ = false ∧ ∀ x : Int, St w (W.setCell ⟨g1, j, none⟩ (.int .i64 x)) (L.set n (obS (Kd.slice 3 (Kd.int .i64)) 24 w ok v (xs.set i (r.set j x))))) ∧
      (∀ m, m ≤ r.length → St w (W.setCell ⟨g, i, none⟩ (.slice A1 m c1)) (L.set n (obS (Kd.slice 3 (Kd.int .i64)) 24 w ok v (xs.set i (r.take m))))) := by
  subst hr
  have hS : Kd.S (Kd.slice 3 (Kd.int .i64)) 24 W w.heap.size ok v xs := h.get n hn
  have hw := (h.own _ (List.mem_of_getElem? hn)).1
  obtain ⟨A, c, rfl⟩ := Kd.R_slice (Kd.S_R hS)
  obtain ⟨g, c', e0, _⟩ := Kd.R_form (Kd.S_R hS) (by omega)
  injection e0 with ea _ _
  subst ea
  have hgok : ok g := (Kd.S_R hS).1 g (by simp [Value.ownBlock])
  have hgb : w.heap.size ≤ g := Kd.R_base (Kd.S_R hS) g (by simp [Value.ownBlock])
  obtain ⟨oki, cs, hcl, hM, hcc, hfr, hoki, hH⟩ := Kd.S_elem hS [] (i : Int) (by omega) (by omega)
  have ex : xs.getD (i : Int).toNat [] = xs[i] := by rw [Int.toNat_natCast, List.getD_eq_getElem?_getD, List.getElem?_eq_getElem hi]; rfl
  rw [ex] at hM
  obtain ⟨u, rfl, hR⟩ := hM
  obtain ⟨A1, c1, hu, hle, hC1⟩ := Kd.R_reads hR
  subst hu
  have ei : (i : Int).toNat * (Kd.slice 3 (Kd.int .i64)).sz + 0 = i := by show (i : Int).toNat * 1 + 0 = i; omega
  have hx1 := hcc 0 _ rfl
  have hf1 := hfr 0
  rw [ei] at hx1 hf1
  refine ⟨g, c, A1, c1, rfl, hgb, hx1, hf1, hle, ⟨A1, c1, rfl, hle, hC1⟩, fun hp => ?_, fun j g1 hj hA => ?_, fun m hm => ?_⟩
  · obtain ⟨g1, c2, e2, gb2, _⟩ := Kd.R_form hR (by omega)
    injection e2 with ea _ _
    exact ⟨g1, ea, gb2⟩
  · subst hA
    obtain ⟨hy, hz⟩ := Kd.R_celln 0 hR (j : Int) (by omega) (by omega)
    rw [Int.toNat_natCast] at hy hz
    refine ⟨hy, hz, fun x => ?_⟩
    have hg1 : oki g1 := hR.1 g1 (by simp [Value.ownBlock])
    have hb1 : w.heap.size ≤ g1 := Kd.R_base hR g1 (by simp [Value.ownBlock])
    have hP := Kd.R_putg hR (j : Int) x
    rw [Int.toNat_natCast] at hP
    have h1 := Kd.H_back (Kd.H_step hH (fun k _ hn' hlt => hP.2.block k hlt (fun e => hn' (by cases e; exact hg1)))) (x' := xs[i].set j x) (okp := oki) ⟨_, rfl, hP.1⟩ (fun _ h => h)
    rw [Int.toNat_natCast] at h1
    refine St.redo1 (o' := obS _ _ w ok _ _) h n hn ⟨hP.2.size, fun k hk hne => hP.2.block k hk (fun e => hne (by cases e; exact (hoki g1 hg1).1))⟩ (below_set h.below hb1) ⟨fun k hk => ⟨.inl hk, (hw k hk).1, Nat.lt_of_lt_of_le (hw k hk).2 hP.2.size⟩, h1, firmS⟩
  · have h2 := Kd.S_seg0 hH (show (0 : Int) ≤ (i : Int) by omega) (show (i : Int) < (xs.length : Int) by omega) (seg := [.slice A1 m c1]) (j := 0) (show 1 ≤ 1 from by decide) (x' := xs[i].take m) (okp := oki) ⟨.slice A1 m c1, rfl, Kd.R_take hR hm⟩ (fun _ h => h)
    rw [ei, Int.toNat_natCast] at h2
    refine St.redo1 (o' := obS _ _ w ok _ _) h n hn ⟨h2.2.size, fun k hk hne => h2.2.block k hk (fun e => hne (by cases e; exact hgok))⟩ (below_set h.below hgb) ⟨fun k hk => ⟨.inl hk, (hw k hk).1, Nat.lt_of_lt_of_le (hw k hk).2 h2.2.size⟩, h2.1, firmS⟩
end
section
variable {ops : Array Oper} {rest : List Oper} {oi : Oper} {a : Act} {Q : Exit → Act → World → Prop} {w W : World} {L : List Ob} {ok : Nat → Prop} {v : Value} {xs : List (List Int)}
end
section
variable {ops : Array Oper} {rest : List Oper} {oi : Oper} {a : Act} {Q : Exit → Act → World → Prop} {w W : World} {L : List Ob}
end
section
variable {α β : Type} {d : Kd α} {d' : Kd β} {t t' : Nat} {w W W' : World} {v v' : Value} {xs : List α} {ys : List β} {L : List Ob}
end
end Go.Proofs.YtpandocpclecgaaGreatDoor.Q

set_option linter.unusedVariables false
set_option linter.unusedSimpArgs false
namespace Go.Proofs.YtpandocpclecgaaGreatDoor.Q
open Go.RowKit Go.Proofs.YtpandocpclecgaaGreatDoor.F Go.Proofs.YtpandocpclecgaaGreatDoorW.PrintWords Go.Proofs.YtpandocpclecgaaGreatDoorW.PrintLast Go.Proofs.YtpandocpclecgaaGreatDoorW.PrintMore
section
variable {w W w1 : World} {L L' : List Ob} {b t : Nat} {cs cs' : Array Value} {x0 x1 : Value} {o o' o'' : Ob}
theorem St.putB (h : St w W L) (i : Nat) (hi : L[i]? = some (obB b cs t)) (j : Nat) (u : Value) (hc : cs.setIfInBounds j u = cs') : St w (W.setCell ⟨b, j, none⟩ u) (L.set i (obB b cs' t)) := by
  have hb : w.heap.size ≤ b := ((h.own _ (List.mem_of_getElem? hi)).1 b rfl).1
  refine h.mark (o' := obB b cs' t) i hi rfl firmB (below_set h.below hb) ⟨by simp [World.setCell], fun k _ hk => ?_⟩ (blk_put (show W.heap[b]? = some (.cells cs t (0, 0)) from h.get i hi) j u hc) rfl
  have hk' : k ≠ b := hk
  exact Below.heap_setCell _ _ _ _ hk'
theorem St.addB (h : St w W L) {W' : World} (hx : W'.heap[b]? = some (.cells cs t (0, 0))) (hb : b = W.heap.size) (hl : Below W.heap.size W W') : St w W' (obB b cs t :: L) :=
  h.add (o := obB b cs t) hl (fun k hk => by have h1 : k = b := hk; have h2 := blk_lt hx; omega) hx firmB
theorem St.heapB (h : St w W L) (i : Nat) (hi : L[i]? = some (obB b cs t)) : W.heap[b]? = some (.cells cs t (0, 0)) := h.get i hi
theorem St.giveRS {α β : Type} {d : Kd α} {d' : Kd β} {t t' : Nat} {ok0 ok1 : Nat → Prop} {v0 v1 : Value} {xs : List α} {ys : List β} (h : St w W L) (i j : Nat) (hij : i < j) (hi : L[i]? = some (obR d t w ok0 v0 xs)) (hj : L[j]? = some (obS d' t' w ok1 v1 ys)) :
    Kd.R d t W w.heap.size (fun _ => True) v0 xs ∧ Kd.S d' t' W w.heap.size (fun k_ => some k_ ≠ (v0 : Value).ownBlock) v1 ys ∧ Below w.heap.size w W := by
  have hR : Kd.R d t W w.heap.size ok0 v0 xs := h.get i hi
  have hS : Kd.S d' t' W w.heap.size ok1 v1 ys := h.get j hj
  refine ⟨Kd.R_mono hR (fun _ _ => trivial), Kd.S_mono hS (fun k hk e => ?_), h.below⟩
  obtain ⟨hil, hi'⟩ := List.getElem?_eq_some_iff.1 hi
  obtain ⟨hjl, hj'⟩ := List.getElem?_eq_some_iff.1 hj
  have hp := List.pairwise_iff_getElem.1 h.apart i j hil hjl hij k
  rw [hi', hj'] at hp
  exact hp (hR.1 k e.symm) hk
theorem Reads.C {α : Type} {d : Kd α} {A : Option Addr} {c : Nat} {xs : List α} (h : Reads d W (.slice A xs.length c) xs) : xs.length ≤ c ∧ d.C W A xs.length xs := by
  obtain ⟨A', c', e, h1, h2⟩ := h
  cases e
  exact ⟨h1, h2⟩
end
end Go.Proofs.YtpandocpclecgaaGreatDoor.Q

set_option linter.unusedVariables false
set_option linter.unusedSimpArgs false
namespace Go.Proofs.YtpandocpclecgaaGreatDoor.Q
open Go.RowKit Go.Proofs.YtpandocpclecgaaGreatDoor.F Go.Proofs.YtpandocpclecgaaGreatDoorW.PrintWords Go.Proofs.YtpandocpclecgaaGreatDoorW.PrintLast Go.Proofs.YtpandocpclecgaaGreatDoorW.PrintMore
section
variable {w W : World} {L : List Ob}
theorem St.boxE (h : St w W L) (cs : Array Value) (t : Nat) {b : Nat} (hb : b = W.heap.size) : St w (W.alloc (.cells cs t (0, 0))) (obB b cs t :: L) := by
  subst hb
  exact St.box h cs t
end
section
variable {ops : Array Oper} {oi : Oper} {a : Act} {Q : Exit → Act → World → Prop} {Kc : Act → World → Prop} {w W : World} {L : List Ob} {ok : Nat → Prop} {v : Value} {xs ys : List Int}
theorem St.putInts_step {A : Option Addr} {m cA : Nat} (hw : Region.wanted oi (yielded ops a.tmps) = true) (s y : Operand) (ho : oi.op = .call { callee := .builtin .append, args := #[s, y], argTypes := #[24, 24] })
    (h : St w W L) (n : Nat) (hn : L[n]? = some (obR (Kd.int .i64) 3 w ok v xs)) (hs : a.eval s = v) (hx : a.eval y = .slice A m cA) (HR : Kd.C (Kd.int .i64) W A m ys) (hl : (xs.length + m) * 8 ≤ 140737488355328)
    (hk : ∀ v1 w1 ok1, St w w1 (L.set n (obR (Kd.int .i64) 3 w ok1 v1 (xs ++ ys))) → Kc (a.put oi.dst v1) w1) :
    if Region.wanted oi (yielded ops a.tmps) = true then Oper.wp Tryz.prog oi a W Kc Q else Kc (a.put oi.dst undef) W := by
  have hR : Kd.R (Kd.int .i64) 3 W w.heap.size ok v xs := h.get n hn
  refine Kd.R_append_rows_step (Kd.int .i64) (Rr := (Kd.int .i64).K W) (w0 := w) w.heap.size hw s y 24 3 (.int .i64 0) 8 ho Tryz.underlying24 info3 rfl (by decide) (by omega) v xs ys A m cA (fun k => ok k ∨ W.heap.size ≤ k) (fun _ => False) hs hx (Kd.R_mono hR (fun k hk => .inl hk)) HR (fun _ _ h => h) (fun _ h => h.elim) (fun _ h => .inr h) h.below h.below.size hl ?_
  intro v1 w1 hR1 hB hg _
  exact hk v1 w1 _ (St.redo1 (o' := obR (Kd.int .i64) 3 w (fun k => (ok k ∨ W.heap.size ≤ k) ∧ w.heap.size ≤ k ∧ k < w1.heap.size) v1 (xs ++ ys)) h n hn ⟨hg.size, fun k hk hne => hg.block k hk (fun e2 => hne (hR.1 k e2.symm))⟩ hB ⟨fun k hk => hk, Kd.R_mono (Kd.R_bound hR1) (fun k hk => ⟨hk.1, hk.2.1, hk.2.2.1⟩), firmR⟩)
end
end Go.Proofs.YtpandocpclecgaaGreatDoor.Q

set_option linter.unusedVariables false
set_option linter.unusedSimpArgs false
namespace Go.Proofs.YtpandocpclecgaaGreatDoor.Q
open Go.RowKit Go.Proofs.YtpandocpclecgaaGreatDoor.F Go.Proofs.YtpandocpclecgaaGreatDoorW.PrintWords Go.Proofs.YtpandocpclecgaaGreatDoorW.PrintLast Go.Proofs.YtpandocpclecgaaGreatDoorW.PrintMore
section
variable {ops : Array Oper} {oi : Oper} {a : Act} {Q : Exit → Act → World → Prop} {Kc : Act → World → Prop} {w W : World} {L : List Ob} {ok : Nat → Prop} {v : Value} {xs : List (List Int)}
theorem St.growRowG_step (hw_ : Region.wanted oi (yielded ops a.tmps) = true) (s y : Operand) (ho : oi.op = .call { callee := .builtin .append, args := #[s, y], argTypes := #[24, 24] }) {x : Int}
    (h : St w W L) (n : Nat) (hn : L[n]? = some (obS (Kd.slice 3 (Kd.int .i64)) 24 w ok v xs)) (i : Nat) (hi : i < xs.length) {r : List Int} (hr : xs[i] = r) {g c c1 : Nat} {A1 : Option Addr} (hv : v = .slice (some ⟨g, 0, none⟩) xs.length c) (hc : W.cell? ⟨g, i, none⟩ = some (.slice A1 r.length c1))
    (hs : a.eval s = .slice A1 r.length c1) (hx : a.eval y = .slice (some ⟨W.heap.size, 0, none⟩) 1 1) (hl : (r.length + 1) * 8 ≤ 140737488355328)
    (hk : ∀ A2 c2 w1, w1.cell? ⟨g, i, none⟩ = some (.slice A1 r.length c1) → w1.frozen? ⟨g, i, none⟩ = false → (∀ j o, j ≠ n → L[j]? = some o → o.P w1) → (∃ ok2, St w (w1.setCell ⟨g, i, none⟩ (.slice A2 (r.length + 1) c2)) (L.set n (obS (Kd.slice 3 (Kd.int .i64)) 24 w ok2 v (xs.set i (r ++ [x]))))) → Kc (a.put oi.dst (.slice A2 (r.length + 1) c2)) w1) :
    if Region.wanted oi (yielded ops a.tmps) = true then Oper.wp Tryz.prog oi a (W.alloc (.cells #[.int .i64 x] 3)) Kc Q else Kc (a.put oi.dst undef) (W.alloc (.cells #[.int .i64 x] 3)) := by
  subst hv hr
  have hS : Kd.S (Kd.slice 3 (Kd.int .i64)) 24 W w.heap.size ok (.slice (some ⟨g, 0, none⟩) xs.length c) xs := h.get n hn
  have hw := (h.own _ (List.mem_of_getElem? hn)).1
  have hgok : ok g := (Kd.S_R hS).1 g (by simp [Value.ownBlock])
  have hgb : w.heap.size ≤ g := Kd.R_base (Kd.S_R hS) g (by simp [Value.ownBlock])
  obtain ⟨oki, cs, hcl, hM, hcc, hfr, hoki, hH⟩ := Kd.S_elem hS [] (i : Int) (by omega) (by omega)
  have ex : xs.getD (i : Int).toNat [] = xs[i] := by rw [Int.toNat_natCast, List.getD_eq_getElem?_getD, List.getElem?_eq_getElem hi]; rfl
  rw [ex] at hM
  obtain ⟨u, rfl, hR⟩ := hM
  have ei : (i : Int).toNat * (Kd.slice 3 (Kd.int .i64)).sz + 0 = i := by show (i : Int).toNat * 1 + 0 = i; omega
  have hx1 := hcc 0 _ rfl
  rw [ei, hc] at hx1
  injection hx1 with hx1
  subst hx1
  refine Kd.R_append_step (Kd.int .i64) (w0 := w) w.heap.size hw_ s y 24 3 (.int .i64 0) 8 ho Tryz.underlying24 info3 rfl (by decide) (by omega) (.slice A1 xs[i].length c1) xs[i] x [.int .i64 x] (fun k => oki k ∨ W.heap.size ≤ k) (fun _ => False) hs hx rfl (fun _ h => h.elim) (fun _ h => .inr h) (Kd.R_mono hR (fun k hk => .inl hk)) h.below h.below.size hl ?_
  intro v1 w1 hR1 hB hg hat
  obtain ⟨A2, c2, e2⟩ := Kd.R_slice hR1
  subst e2
  have hne : some g ≠ (Value.slice A1 xs[i].length c1).ownBlock := fun e => (hoki g (hR.1 g e.symm)).2 rfl
  have hH1 : Kd.H (Kd.slice 3 (Kd.int .i64)) 24 w1 w.heap.size (fun k => ok k ∨ W.heap.size ≤ k) (.slice (some ⟨g, 0, none⟩) xs.length c) xs (i : Int) (fun k => oki k ∨ (ok k ∨ W.heap.size ≤ k) ∧ W.heap.size ≤ k) [.slice A1 xs[i].length c1] := by
    have := Kd.H_widen (Kd.H_mono hH (fun k hk => (.inl hk : ok k ∨ W.heap.size ≤ k)))
    have h3 := Kd.H_grown this hg (fun k e => .inl (hR.1 k e))
    exact h3
  obtain ⟨hc7, hf7⟩ := Kd.H_at hH1 (show (0 : Int) ≤ (i : Int) by omega) (show (i : Int) < (xs.length : Int) by omega)
  have hx7 := hc7 0 _ rfl
  have hy7 := hf7 0
  rw [ei] at hx7 hy7
  rw [show (xs[i] ++ [x]).length = xs[i].length + 1 by simp] at hR1 ⊢
  have hPo : ∀ j o, j ≠ n → L[j]? = some o → o.P w1 := fun j o hj ho => by
    obtain ⟨_, h2, h3⟩ := h.own o (List.mem_of_getElem? ho)
    refine h3 W w1 h2 (fun k hk hlt => hg.block k hlt (fun e => ?_))
    have hk2 : ok k := (hoki k (hR.1 k e.symm)).1
    obtain ⟨hnl, hnn⟩ := List.getElem?_eq_some_iff.1 hn
    obtain ⟨hjl, hjj⟩ := List.getElem?_eq_some_iff.1 ho
    rcases Nat.lt_or_gt_of_ne hj with hlt2 | hlt2
    · have := List.pairwise_iff_getElem.1 h.apart j n hjl hnl hlt2 k
      rw [hjj, hnn] at this
      exact this hk hk2
    · have := List.pairwise_iff_getElem.1 h.apart n j hnl hjl hlt2 k
      rw [hjj, hnn] at this
      exact this hk2 hk
  refine hk A2 c2 w1 hx7 hy7 hPo ⟨fun k => (ok k ∨ W.heap.size ≤ k) ∧ w.heap.size ≤ k ∧ k < w1.heap.size, ?_⟩
  have h2 := Kd.S_seg0 hH1 (show (0 : Int) ≤ (i : Int) by omega) (show (i : Int) < (xs.length : Int) by omega) (seg := [.slice A2 (xs[i].length + 1) c2]) (j := 0) (show 1 ≤ 1 from by decide) (x' := xs[i] ++ [x]) (okp := fun k => oki k ∨ W.heap.size ≤ k) ⟨.slice A2 (xs[i].length + 1) c2, rfl, hR1⟩ (fun k hk => hk.imp id (fun h => ⟨.inr h, h⟩))
  rw [ei, Int.toNat_natCast] at h2
  have hz := hg.size
  refine St.redo1 (o' := obS _ _ w _ _ _) h n hn ⟨Nat.le_trans hg.size h2.2.size, fun k hk hne => ?_⟩ (below_set hB hgb) ⟨fun k hk => ⟨hk.1, hk.2.1, Nat.lt_of_lt_of_le hk.2.2 h2.2.size⟩, Kd.S_mono (Kd.S_bound h2.1) (fun k hk => ⟨hk.1, hk.2.1, ?_⟩), firmS⟩
  · exact (h2.2.block k (Nat.lt_of_lt_of_le hk hz) (fun e => hne (by cases e; exact hgok))).trans (hg.block k hk (fun e => hne (hoki k (hR.1 k e.symm)).1))
  · have := hk.2.2.1
    have e3 : (w1.setCell ⟨g, i, none⟩ (.slice A2 (xs[i].length + 1) c2)).heap.size = w1.heap.size := by simp [World.setCell]
    have e4 : (w1.setCells g i [.slice A2 (xs[i].length + 1) c2]).heap.size = w1.heap.size := e3
    omega
end
end Go.Proofs.YtpandocpclecgaaGreatDoor.Q

set_option linter.unusedVariables false
set_option linter.unusedSimpArgs false
namespace Go.Proofs.YtpandocpclecgaaGreatDoor.Q
open Go.RowKit Go.Proofs.YtpandocpclecgaaGreatDoor.F Go.Proofs.YtpandocpclecgaaGreatDoorW.PrintWords Go.Proofs.YtpandocpclecgaaGreatDoorW.PrintLast Go.Proofs.YtpandocpclecgaaGreatDoorW.PrintMore
section
variable {w W W' : World} {L : List Ob} {g : Nat} {s : List Int} {i hh i' h' : Int}
def obC (w : World) (g : Nat) (s : List Int) (i h : Int) : Ob := ⟨fun k => k = g, fun W => IsS67 w W g s i h⟩
theorem firmC : Firm (obC w g s i hh) := fun W W' hP hm => by
  obtain ⟨A0, c0, h1, h2, h3⟩ := hP
  exact ⟨A0, c0, (hm g rfl (blk_lt h1)).trans h1, h2, h3⟩
theorem St.curC (h : St w W (obC w g s i hh :: L)) : IsS67 w W g s i hh := h.get 0 rfl
theorem St.turnC (h : St w W (obC w g s i hh :: L)) (hk : KeepBut W W' g none) (hB : Below w.heap.size w W') (hI : IsS67 w W' g s i' h') : St w W' (obC w g s i' h' :: L) :=
  St.redo1 (o' := obC w g s i' h') h 0 rfl ⟨hk.1, fun k hlt hne => hk.2 k hlt hne (by simp)⟩ hB ⟨fun k hk' => ⟨.inl hk', by
    have e : k = g := hk'
    subst e
    exact ⟨IsS67.ge hI, IsS67.lt hI⟩⟩, hI, firmC⟩
theorem St.turnCOO {o o2 : Ob} (h : St w W (obC w g s i hh :: L)) (hk : KeepBut W W' g none) (hB : Below w.heap.size w W') (hI : IsS67 w W' g s i' h') (hn : ∀ k, o.ok k → W.heap.size ≤ k ∧ k < W'.heap.size) (hP : o.P W') (hf : Firm o) (hn2 : ∀ k, o2.ok k → W.heap.size ≤ k ∧ k < W'.heap.size) (hP2 : o2.P W') (hf2 : Firm o2) (ha : ∀ k, o.ok k → ¬ o2.ok k) : St w W' (obC w g s i' h' :: o :: o2 :: L) := by
  have hs := h.below.size
  have hlt := IsS67.lt (St.curC h)
  refine St.redo (P := [obC w g s i hh]) (P' := [obC w g s i' h', o, o2]) h ⟨hk.1, fun k hlt hne => hk.2 k hlt (fun e => hne ⟨_, List.mem_singleton.2 rfl, e⟩) (by simp)⟩ hB ?_ ?_
  · intro q hq
    rcases (by simpa using hq : q = obC w g s i' h' ∨ q = o ∨ q = o2) with rfl | rfl | rfl
    · refine ⟨fun k hk' => ?_, hI, firmC⟩
      have e : k = g := hk'
      subst e
      exact ⟨.inl ⟨_, List.mem_singleton.2 rfl, rfl⟩, IsS67.ge hI, IsS67.lt hI⟩
    · exact ⟨fun k hk' => ⟨.inr (hn k hk').1, Nat.le_trans hs (hn k hk').1, (hn k hk').2⟩, hP, hf⟩
    · exact ⟨fun k hk' => ⟨.inr (hn2 k hk').1, Nat.le_trans hs (hn2 k hk').1, (hn2 k hk').2⟩, hP2, hf2⟩
  · refine List.pairwise_cons.2 ⟨fun b hb k hk1 hk2 => ?_, List.pairwise_pair.2 (fun k hk1 hk2 => ha k hk1 hk2)⟩
    have e : k = g := hk1
    rcases (by simpa using hb : b = o ∨ b = o2) with rfl | rfl
    · have := (hn k hk2).1; omega
    · have := (hn2 k hk2).1; omega
theorem St.turnCRR {α β : Type} {d : Kd α} {d' : Kd β} {t t' : Nat} {v v' : Value} {xs : List α} {ys : List β} (hE : d.E = []) (hE' : d'.E = []) (h : St w W (obC w g s i hh :: L)) (hk : KeepBut W W' g none) (hB : Below w.heap.size w W') (hI : IsS67 w W' g s i' h')
    (hr : Kd.R d t W' W.heap.size (fun k => some k ≠ v'.ownBlock) v xs) (hr' : Kd.R d' t' W' W.heap.size (fun k => some k ≠ v.ownBlock) v' ys) : ∃ ok1 ok2, St w W' (obC w g s i' h' :: obR d t w ok1 v xs :: obR d' t' w ok2 v' ys :: L) := by
  have hs := h.below.size
  have b1 := Kd.R_bound (Kd.R_tight hE hr)
  have b2 := Kd.R_bound (Kd.R_tight hE' hr')
  exact ⟨_, _, St.turnCOO h hk hB hI (o := obR d t w (fun k => some k = v.ownBlock ∧ W.heap.size ≤ k ∧ k < W'.heap.size) v xs) (o2 := obR d' t' w (fun k => some k = v'.ownBlock ∧ W.heap.size ≤ k ∧ k < W'.heap.size) v' ys) (fun _ hk => hk.2) (Kd.R_mono (Kd.R_lower b1 hs) (fun k hk => ⟨hk.1, hk.2.1, hk.2.2.1⟩)) firmR (fun _ hk => hk.2) (Kd.R_mono (Kd.R_lower b2 hs) (fun k hk => ⟨hk.1, hk.2.1, hk.2.2.1⟩)) firmR (fun k hk hk2 => hr.1 k hk.1.symm hk2.1)⟩
theorem St.turnCRS {α β : Type} {d : Kd α} {d' : Kd β} {t t' : Nat} {v v' : Value} {xs : List α} {ys : List β} (hE : d.E = []) (h : St w W (obC w g s i hh :: L)) (hk : KeepBut W W' g none) (hB : Below w.heap.size w W') (hI : IsS67 w W' g s i' h')
    (hr : Kd.R d t W' W.heap.size (fun _ => True) v xs) (hr' : Kd.S d' t' W' W.heap.size (fun k => some k ≠ v.ownBlock) v' ys) : ∃ ok1 ok2, St w W' (obC w g s i' h' :: obR d t w ok1 v xs :: obS d' t' w ok2 v' ys :: L) := by
  have hs := h.below.size
  exact ⟨_, _, St.turnCOO h hk hB hI (o := obR d t w (fun k => some k = v.ownBlock ∧ W.heap.size ≤ k ∧ k < W'.heap.size) v xs) (o2 := obS d' t' w (fun k => some k ≠ v.ownBlock ∧ W.heap.size ≤ k ∧ k < W'.heap.size) v' ys) (fun _ hk => hk.2) (Kd.R_mono (Kd.R_lower (Kd.R_bound (Kd.R_tight hE hr)) hs) (fun k hk => ⟨hk.1, hk.2.1, hk.2.2.1⟩)) firmR (fun _ hk => hk.2) (Kd.S_mono (Kd.S_lower (Kd.S_bound hr') hs) (fun k hk => ⟨hk.1, hk.2.1, hk.2.2.1⟩)) firmS (fun k hk hk2 => hk2.1 hk.1)⟩
theorem St.farC {A : Option Addr} {c n : Nat} {ok : Nat → Prop} {xs : List Int} (h : St w W (obC w g s i hh :: L)) (q : Nat) (hq : (obC w g s i hh :: L)[q]? = some (obR (Kd.int .i64) 3 w ok (.slice A n c) xs)) : ∀ ad, A = some ad → 0 < xs.length → ad.block ≠ g := by
  intro ad e _ hg
  subst e hg
  have h1 : Kd.R (Kd.int .i64) 3 W w.heap.size ok (.slice (some ad) n c) xs := h.get q hq
  exact IsS67.own_ne (St.curC h) h1 (by decide) (by simp [Value.ownBlock])
theorem l1Below_st (h : St w W (obC w g s i hh :: L)) {n x : Int} (e : spec_l1Below.f s i hh n = some (x, i', h')) :
    Calls Tryz.prog 36 #[.pointer (some ⟨g, 0, none⟩), .int .i64 n] W fun e W' => e = .returned (.int .i64 x) ∧ St w W' (obC w g s i' h' :: L) := by
  refine (spec_l1Below.calls g s i hh n x i' h' w W (St.curC h) h.below e).mono ?_
  rintro e W' ⟨rfl, hI, hB, hk⟩
  exact ⟨rfl, h.turnC hk hB hI⟩
theorem ints_C {b t : Nat} {xs : List Int} {cs : Array Value} (hb : W.heap[b]? = some (.cells cs t (0, 0))) (hc : cs = (xs.map (fun x => Value.int .i64 x)).toArray) (hl : xs.length ≤ 1000) : Kd.C (Kd.int .i64) W (some ⟨b, 0, none⟩) xs.length xs := by
  subst hc
  refine ⟨rfl, (by omega), fun _ => ⟨_, rfl, fun j p hj => ⟨[.int .i64 p], rfl, rfl, fun q u hu => ?_⟩⟩⟩
  match q, hu with
  | 0, hu =>
    obtain rfl : Value.int .i64 p = u := by simpa using hu
    have e := blk_cell hb j
    rw [show ((xs.map (fun x => Value.int .i64 x)).toArray)[j]? = some (.int .i64 p) by simp [hj]] at e
    have ea : (Addr.add ⟨b, 0, none⟩ (j * (Kd.int .i64).sz + 0)) = ⟨b, j, none⟩ := by show Addr.add ⟨b, 0, none⟩ (j * 1 + 0) = _; rw [Nat.mul_one, Nat.add_zero]; simp [Addr.add]; omega
    rw [ea]
    exact e
theorem l1PickInt_st {b t : Nat} {l : List Int} {cs : Array Value} (h : St w W (obC w g s i hh :: L)) (hb : W.heap[b]? = some (.cells cs t (0, 0))) (hc : cs = (l.map (fun x => Value.int .i64 x)).toArray) (hl : l.length ≤ 1000) (hg : b ≠ g) {x : Int} (e : spec_l1PickInt.f s i hh l = some (x, i', h')) :
    Calls Tryz.prog 53 #[.pointer (some ⟨g, 0, none⟩), .slice (some ⟨b, 0, none⟩) l.length l.length] W fun e W' => e = .returned (.int .i64 x) ∧ St w W' (obC w g s i' h' :: L) ∧ KeepBut W W' g none := by
  refine (spec_l1PickInt.calls g s i hh (some ⟨b, 0, none⟩) l.length l x i' h' w W (St.curC h) h.below (ints_C hb hc hl) (Nat.le_refl _) (fun ad e _ => by cases e; exact hg) e).mono ?_
  rintro e W' ⟨rfl, hI, hB, hk⟩
  exact ⟨rfl, h.turnC hk hB hI, hk⟩
theorem l4Draw_st (h : St w W (obC w g s i hh :: L)) {a : Int} {o n : List Int} (e : Ev (fun k => spec_l4Draw.f k s i hh a) (o, n, i', h')) :
    Calls Tryz.prog 71 #[.pointer (some ⟨g, 0, none⟩), .int .i64 a] W fun e W' => ∃ A0 c0 A1 c1 ok0 ok1, e = .returned (.agg #[.slice A0 o.length c0, .slice A1 n.length c1]) ∧ St w W' (obC w g s i' h' :: obR (Kd.int .i64) 3 w ok0 (.slice A0 o.length c0) o :: obR (Kd.int .i64) 3 w ok1 (.slice A1 n.length c1) n :: L) := by
  obtain ⟨K, hK⟩ := e
  refine (spec_l4Draw.calls K g s i hh a o n i' h' w W (St.curC h) h.below (hK K (Nat.le_refl _))).mono ?_
  rintro e W' ⟨v0, v1, rfl, h0, h1, hI, hB, hk⟩
  obtain ⟨A0, c0, rfl⟩ := Kd.R_slice h0
  obtain ⟨A1, c1, rfl⟩ := Kd.R_slice h1
  obtain ⟨ok0, ok1, h2⟩ := St.turnCRR rfl rfl h hk hB hI h0 h1
  exact ⟨A0, c0, A1, c1, ok0, ok1, rfl, h2⟩
theorem l5Fill_st {A0 A1 : Option Addr} {c0 c1 : Nat} {ok0 ok1 : Nat → Prop} {o n : List Int} (h : St w W (obC w g s i hh :: L)) (q0 : Nat) (h0 : (obC w g s i hh :: L)[q0]? = some (obR (Kd.int .i64) 3 w ok0 (.slice A0 o.length c0) o)) (q1 : Nat) (h1 : (obC w g s i hh :: L)[q1]? = some (obR (Kd.int .i64) 3 w ok1 (.slice A1 n.length c1) n))
    {n2 : List Int} {m : List (List Int)} (e : Ev (fun k => spec_l5Fill.f k s i hh o n) (n2, m, i', h')) :
    Calls Tryz.prog 70 #[.pointer (some ⟨g, 0, none⟩), .agg #[.slice A0 o.length c0, .slice A1 n.length c1]] W fun e W' => ∃ A2 c2 A3 c3 ok2 ok3, e = .returned (.agg #[.slice A2 n2.length c2, .slice A3 m.length c3]) ∧ St w W' (obC w g s i' h' :: obR (Kd.int .i64) 3 w ok2 (.slice A2 n2.length c2) n2 :: obS (Kd.slice 3 (Kd.int .i64)) 24 w ok3 (.slice A3 m.length c3) m :: L) := by
  obtain ⟨K, hK⟩ := e
  obtain ⟨_, _, e0, l0, C0⟩ := St.readR h q0 h0
  injection e0 with e0 _ e0'
  subst e0 e0'
  obtain ⟨_, _, e1, l1, C1⟩ := St.readR h q1 h1
  injection e1 with e1 _ e1'
  subst e1 e1'
  refine (spec_l5Fill.calls K g s i hh A0 c0 o A1 c1 n n2 m i' h' w W (St.curC h) h.below C0 l0 (St.farC h q0 h0) C1 l1 (St.farC h q1 h1) (hK K (Nat.le_refl _))).mono ?_
  rintro e W' ⟨v0, v1, rfl, h0, h1, hI, hB, hk⟩
  obtain ⟨A2, c2, rfl⟩ := Kd.R_slice h0
  obtain ⟨A3, c3, rfl⟩ := Kd.R_slice (Kd.S_R h1)
  obtain ⟨ok2, ok3, h2⟩ := St.turnCRS rfl h hk hB hI h0 h1
  exact ⟨A2, c2, A3, c3, ok2, ok3, rfl, h2⟩
theorem specTab_st {L : List Ob} {v0 v1 : Value} {n : List Int} {m : List (List Int)} (h : St w W L) (h0 : Reads (Kd.int .i64) W v0 n) (h1 : Reads (Kd.slice 3 (Kd.int .i64)) W v1 m) {b : Bool} (e : Ev (fun k => spec_IsTableau.f k n m) b) :
    Calls Tryz.prog 46 #[.agg #[v0, v1]] W fun e W' => e = .returned (.bool b) ∧ St w W' L := by
  obtain ⟨K, hK⟩ := e
  obtain ⟨A0, c0, rfl, l0, C0⟩ := h0
  obtain ⟨A1, c1, rfl, l1, C1⟩ := h1
  refine (spec_IsTableau.calls K A0 c0 n A1 c1 m b W C0 l0 C1 l1 (hK K (Nat.le_refl _))).mono ?_
  rintro e W' ⟨rfl, hb⟩
  exact ⟨rfl, h.quiet (by first | exact hb | exact hb.below)⟩
end

section
variable {ops : Array Oper} {rest : List Oper} {oi : Oper} {a : Act} {Q : Exit → Act → World → Prop} {w W : World} {L : List Ob}
theorem St.swap {o1 o2 : Ob} (h : St w W (o1 :: o2 :: L)) : St w W (o2 :: o1 :: L) := St.perm_ h (List.Perm.swap _ _ _)
theorem St.none_ (h : St w W L) : St w W (obR (Kd.int .i64) 3 w (fun _ => False) (.slice none 0 0) [] :: L) :=
  h.add (o := obR (Kd.int .i64) 3 w (fun _ => False) (.slice none 0 0) []) (Below.refl _ _) (fun _ h => h.elim) (Kd.R_nil _ _ _ _ _) firmR
theorem St.litInts {N : Tmp} (xs : List Int) (hgd : oi.guard = none) (hd : oi.dst = some N) (hrun : (execOp a.eval oi).run Tryz.prog W = .ok (.value (.slice (some ⟨W.heap.size, 0, none⟩) xs.length xs.length)) (W.alloc (.cells (xs.map (fun x => Value.int .i64 x)).toArray 3))) (h : St w W L) (hl : xs.length ≤ 1000)
    (hk : ∀ v1 w1 ok1, St w w1 (obR (Kd.int .i64) 3 w ok1 v1 xs :: L) → wpList Tryz.prog ops Q rest (a.put oi.dst v1) w1) : wpList Tryz.prog ops Q (oi :: rest) a W := by
  refine Kd.R_lit (Kd.int .i64) (w0 := W) W.heap.size 3 hgd hd (xs := xs) (inner := xs.map (fun x => Value.int .i64 x)) (ok := fun _ => True) (okp := fun _ => True) hrun ⟨by show (xs.map _).length = xs.length * 1; simp, fun j p hj => ?_⟩ (fun _ _ => trivial) trivial (Below.refl _ _) (Nat.le_refl _) (by omega) ?_
  · obtain ⟨hjl, hjx⟩ := List.getElem?_eq_some_iff.1 hj
    show ((xs.map (fun x => Value.int .i64 x)).drop (j * 1)).take 1 = [.int .i64 p]
    rw [Nat.mul_one, List.drop_eq_getElem_cons (by simpa using hjl)]
    simp [hjx]
  · intro v1 w1 hR hB _ _
    obtain ⟨ok1, h1⟩ := h.addR hB hR
    exact hk v1 w1 ok1 h1
theorem St.litRows2 {N : Tmp} {v0 v1 : Value} {ok0 ok1 : Nat → Prop} {x0 x1 : List Int} (hgd : oi.guard = none) (hd : oi.dst = some N) (hrun : (execOp a.eval oi).run Tryz.prog W = .ok (.value (.slice (some ⟨W.heap.size, 0, none⟩) 2 2)) (W.alloc (.cells #[v0, v1] 24)))
    (h : St w W (obR (Kd.int .i64) 3 w ok0 v0 x0 :: obR (Kd.int .i64) 3 w ok1 v1 x1 :: L))
    (hk : ∀ v2 w2 ok2, St w w2 (obS (Kd.slice 3 (Kd.int .i64)) 24 w ok2 v2 [x0, x1] :: L) → wpList Tryz.prog ops Q rest (a.put oi.dst v2) w2) : wpList Tryz.prog ops Q (oi :: rest) a W := by
  have hap := (List.pairwise_cons.1 h.apart).1 (obR (Kd.int .i64) 3 w ok1 v1 x1) (by simp)
  have hR0 : Kd.R (Kd.int .i64) 3 W w.heap.size ok0 v0 x0 := h.get 0 rfl
  have hR1 : Kd.R (Kd.int .i64) 3 W w.heap.size ok1 v1 x1 := h.get 1 rfl
  refine Kd.S_lits (Kd.slice 3 (Kd.int .i64)) (w0 := w) w.heap.size 24 hgd hd (xs := [x0, x1]) (inner := [v0, v1]) (ok := fun k => (ok0 k ∨ ok1 k) ∨ W.heap.size ≤ k) (fun j k => (j = 0 ∧ ok0 k) ∨ (j = 1 ∧ ok1 k)) hrun rfl ?_ ?_ ?_ (.inr (Nat.le_refl _)) h.below h.below.size (by simp) ?_
  · intro j x hx
    match j, hx with
    | 0, hx =>
      obtain rfl : x0 = x := by simpa using hx
      exact ⟨v0, rfl, Kd.R_mono hR0 (fun k hk => .inl ⟨rfl, hk⟩)⟩
    | 1, hx =>
      obtain rfl : x1 = x := by simpa using hx
      exact ⟨v1, rfl, Kd.R_mono hR1 (fun k hk => .inr ⟨rfl, hk⟩)⟩
  · intro i j k hi hj
    rcases hi with ⟨h1, h2⟩ | ⟨h1, h2⟩ <;> rcases hj with ⟨h3, h4⟩ | ⟨h3, h4⟩
    · omega
    · exact absurd h4 (hap k h2)
    · exact absurd h2 (hap k h4)
    · omega
  · intro j k hk
    rcases hk with ⟨_, h2⟩ | ⟨_, h2⟩
    · exact .inl (.inl h2)
    · exact .inl (.inr h2)
  · intro v2 w2 hS hB hg _
    refine hk v2 w2 _ (St.redo (P := [obR (Kd.int .i64) 3 w ok0 v0 x0, obR (Kd.int .i64) 3 w ok1 v1 x1]) (P' := [obS (Kd.slice 3 (Kd.int .i64)) 24 w (fun k => ((ok0 k ∨ ok1 k) ∨ W.heap.size ≤ k) ∧ w.heap.size ≤ k ∧ k < w2.heap.size) v2 [x0, x1]]) h ⟨hg.size, fun k hlt _ => hg.block k hlt (by simp)⟩ hB ?_ (List.pairwise_singleton _ _))
    intro q hq
    obtain rfl := List.mem_singleton.1 hq
    refine ⟨fun k hk => ⟨?_, hk.2⟩, Kd.S_mono (Kd.S_bound hS) (fun k hk => ⟨hk.1, hk.2.1, hk.2.2.1⟩), firmS⟩
    rcases hk.1 with (h1 | h1) | h1
    · exact .inl ⟨_, List.mem_cons_self .., h1⟩
    · exact .inl ⟨_, List.mem_cons_of_mem _ (List.mem_cons_self ..), h1⟩
    · exact .inr h1
end
section
variable {w W : World} {L : List Ob} {g : Nat} {s : List Int} {i hh i' h' : Int}
set_option maxHeartbeats 4000000 in
set_option maxRecDepth 100000 in
theorem l5Draw_st (h : St w W (obC w g s i hh :: L)) (hc : Cur s i) (m0 : Nat) (hm : m0 ≤ 9) (hm1 : 1 ≤ m0) {n : List Int} {m : List (List Int)} (hE : Ev (fun k => spec_l5Draw.f k s i hh (m0 : Int)) (n, m, i', h')) :
    Calls Tryz.prog 54 #[.pointer (some ⟨g, 0, none⟩), .int .i64 (m0 : Int)] W fun e W' => ∃ A0 c0 A1 c1 ok0 ok1, e = .returned (.agg #[.slice A0 n.length c0, .slice A1 m.length c1]) ∧ St w W' (obC w g s i' h' :: obR (Kd.int .i64) 3 w ok0 (.slice A0 n.length c0) n :: obS (Kd.slice 3 (Kd.int .i64)) 24 w ok1 (.slice A1 m.length c1) m :: L) := by
  obtain ⟨o1, n1, i1, h1, e1, hp, hn, _, _, _, hc1⟩ := l4Draw_ok hh m0 hc hm hm1
  obtain ⟨m1, i2, h2, e2, g1, g2, hc2⟩ := l5Fill_ok h1 o1 n1 hc1 hp hn
  obtain ⟨_, n2, _⟩ := isPartition_bd hn
  have e3 := spec_IsTableau_ev n1 m1 (by omega) (by omega) (fun r hr => by have := g2 r hr; omega)
  have H0 := Aside0.mk h
  have E1 := Aside0.mk e1
  have E2 := Aside0.mk e2
  cases ht : isTab n1 m1 with
  | true =>
    rw [ht] at e3
    have E3 := Aside0.mk e3
    have e4 : Ev (fun k => spec_l5Draw.f k s i hh (m0 : Int)) (n1, m1, i2, h2) := by unfold spec_l5Draw.f; exact Ev.bind e1 (Ev.bind e2 (Ev.bind e3 (ev_pos rfl (ev_val rfl))))
    have e5 := ev_unique hE e4
    simp only [Prod.mk.injEq] at e5
    obtain ⟨rfl, rfl, rfl, rfl⟩ := e5
    clear h hE e1 e2 e3 e4 ht hc hc1 hc2 hp hn g1 g2 n2 hm hm1
    go_enter Tryz.func54, Tryz.ntmps54
    go_wp2_with (first
      | ((with_reducible refine gate_dst (N := 4) rfl ?_); refine zX (N := 4) (cs := #[.slice none 0 0, .slice none 0 0]) (t := 29) ?_; intro b4 hb4 w4 hx4 hl4; have H1 := Aside0.mk (St.swap (St.addB H0.out hx4 hb4 hl4)); clear hx4 hb4 hl4)
      | (go_at_call 71; refine (l4Draw_st H1.out E1.out).mono ?_; rintro e w5 ⟨A5, c5, A6, c6, ok5, ok6, rfl, h_⟩; have H2 := Aside0.mk h_; clear h_)
      | (go_at_call 70; refine (l5Fill_st H2.out 1 rfl 2 rfl E2.out).mono ?_; rintro e w6 ⟨A7, c7, A8, c8, ok7, ok8, rfl, h_⟩; have H3 := Aside0.mk h_; clear h_)
      | ((with_reducible refine gate_dst (N := 5) rfl ?_); refine zX (N := 5) (cs := #[.slice none 0 0, .slice none 0 0]) (t := 29) ?_; intro b5 hb5 w7 hx5 hl5; have H3b := (St.swap (St.addB H3.out hx5 hb5 hl5)); clear hx5 hb5 hl5; have z0 := blk_frozen (St.heapB H3b 1 rfl) 0; have z1 := blk_frozen (St.heapB H3b 1 rfl) 1; have x0 : w7.cell? ⟨b5, 0, none⟩ = some (.slice none 0 0) := St.cellB H3b 1 rfl 0 rfl; have x1 : w7.cell? ⟨b5, 1, none⟩ = some (.slice none 0 0) := St.cellB H3b 1 rfl 1 rfl; have H4 := Aside0.mk (St.putB (St.putB H3b 1 rfl 0 (.slice A7 n.length c7) rfl) 1 rfl 1 (.slice A8 m.length c8) rfl); clear H3b)
      | (go_at_call 46; (refine (specTab_st H4.out (H4.out.readR 2 rfl) (H4.out.readS 3 rfl) E3.out).mono ?_; rintro e w8 ⟨rfl, h_⟩; have H5 := Aside0.mk h_; clear h_; clear z0 z1 x0 x1; have z0 : w8.cell? ⟨b5, 0, none⟩ = some (.slice A7 n.length c7) := St.cellB H5.out 1 rfl 0 rfl; have z1 : w8.cell? ⟨b5, 1, none⟩ = some (.slice A8 m.length c8) := St.cellB H5.out 1 rfl 1 rfl; have y0 := (blk_frozen (St.heapB H5.out 6 rfl) 0); have y1 := (blk_frozen (St.heapB H5.out 6 rfl) 1); have x0 : w8.cell? ⟨b4, 0, none⟩ = some (.slice none 0 0) := St.cellB H5.out 6 rfl 0 rfl; have x1 : w8.cell? ⟨b4, 1, none⟩ = some (.slice none 0 0) := St.cellB H5.out 6 rfl 1 rfl)))
    have H9 := St.putB (St.putB H5.out 6 rfl 0 (.slice A7 n.length c7) rfl) 6 rfl 1 (.slice A8 m.length c8) rfl
    refine bodyPost_ret (results_cell_row rfl _ _ b4 29 #[.slice A7 n.length c7, .slice A8 m.length c8] (0, 0) _ rfl (St.heapB H9 6 rfl) Tryz.underlying29 rfl (by kernel_rfl)) rfl ?_
    exact ⟨A7, c7, A8, c8, ok7, ok8, rfl, St.less H9 (.cons_cons _ (.cons _ (.cons_cons _ (.cons_cons _ (.cons _ (.cons _ (.cons _ (List.Sublist.refl _))))))))⟩
  | false =>
    rw [ht] at e3
    have E3 := Aside0.mk e3
    have e4 : Ev (fun k => spec_l5Draw.f k s i hh (m0 : Int)) (([] : List Int), [[1, 1, 2], [2, 3]], i2, h2) := by unfold spec_l5Draw.f; exact Ev.bind e1 (Ev.bind e2 (Ev.bind e3 (ev_neg (by simp) (ev_val rfl))))
    have e5 := ev_unique hE e4
    simp only [Prod.mk.injEq] at e5
    obtain ⟨rfl, rfl, rfl, rfl⟩ := e5
    clear h hE e1 e2 e3 e4 ht hc hc1 hc2 hp hn g1 g2 n2 hm hm1
    go_enter Tryz.func54, Tryz.ntmps54
    go_wp2_with (first
      | ((with_reducible refine gate_dst (N := 4) rfl ?_); refine zX (N := 4) (cs := #[.slice none 0 0, .slice none 0 0]) (t := 29) ?_; intro b4 hb4 w4 hx4 hl4; have H1 := Aside0.mk (St.swap (St.addB H0.out hx4 hb4 hl4)); clear hx4 hb4 hl4)
      | (go_at_call 71; refine (l4Draw_st H1.out E1.out).mono ?_; rintro e w5 ⟨A5, c5, A6, c6, ok5, ok6, rfl, h_⟩; have H2 := Aside0.mk h_; clear h_)
      | (go_at_call 70; refine (l5Fill_st H2.out 1 rfl 2 rfl E2.out).mono ?_; rintro e w6 ⟨A7, c7, A8, c8, ok7, ok8, rfl, h_⟩; have H3 := Aside0.mk h_; clear h_)
      | ((with_reducible refine gate_dst (N := 5) rfl ?_); refine zX (N := 5) (cs := #[.slice none 0 0, .slice none 0 0]) (t := 29) ?_; intro b5 hb5 w7 hx5 hl5; have H3b := (St.swap (St.addB H3.out hx5 hb5 hl5)); clear hx5 hb5 hl5; have z0 := blk_frozen (St.heapB H3b 1 rfl) 0; have z1 := blk_frozen (St.heapB H3b 1 rfl) 1; have x0 : w7.cell? ⟨b5, 0, none⟩ = some (.slice none 0 0) := St.cellB H3b 1 rfl 0 rfl; have x1 : w7.cell? ⟨b5, 1, none⟩ = some (.slice none 0 0) := St.cellB H3b 1 rfl 1 rfl; have H4 := Aside0.mk (St.putB (St.putB H3b 1 rfl 0 (.slice A7 n1.length c7) rfl) 1 rfl 1 (.slice A8 m1.length c8) rfl); clear H3b)
      | (go_at_call 46; (refine (specTab_st H4.out (H4.out.readR 2 rfl) (H4.out.readS 3 rfl) E3.out).mono ?_; rintro e w8 ⟨rfl, h_⟩; have H5 := Aside0.mk (St.none_ (St.less h_ (.cons_cons _ (.cons _ (.cons _ (.cons _ (.cons _ (.cons _ (.cons_cons _ (List.Sublist.refl _)))))))))) ; clear h_; clear z0 z1 x0 x1))
      | ((with_reducible refine gate_dst (N := 14) rfl ?_); refine St.litInts (N := 14) [1, 1, 2] rfl rfl ?hr H5.out (by decide) ?_; (case hr => first | (go_simp; done) | (go_simp; rfl)); intro v14 w14 ok14 h_; obtain ⟨A14, c14, e14⟩ := Kd.R_slice (show Kd.R (Kd.int .i64) 3 w14 w.heap.size ok14 v14 [1, 1, 2] from h_.get 0 rfl); subst e14; have H14 := Aside0.mk h_; clear h_)
      | ((with_reducible refine gate_dst (N := 15) rfl ?_); refine St.litInts (N := 15) [2, 3] rfl rfl ?hr H14.out (by decide) ?_; (case hr => first | (go_simp; done) | (go_simp; rfl)); intro v15 w15 ok15 h_; obtain ⟨A15, c15, e15⟩ := Kd.R_slice (show Kd.R (Kd.int .i64) 3 w15 w.heap.size ok15 v15 [2, 3] from h_.get 0 rfl); subst e15; have H15 := Aside0.mk (St.swap h_); clear h_)
      | ((with_reducible refine gate_dst (N := 16) rfl ?_); refine St.litRows2 (N := 16) rfl rfl ?hr H15.out ?_; (case hr => first | (go_simp; done) | (go_simp; rfl)); intro v16 w16 ok16 h_; obtain ⟨A16, c16, e16⟩ := Kd.R_slice (Kd.S_R (show Kd.S (Kd.slice 3 (Kd.int .i64)) 24 w16 w.heap.size ok16 v16 [[1, 1, 2], [2, 3]] from h_.get 0 rfl)); subst e16; have H16 := Aside0.mk h_; clear h_; have y0 := (blk_frozen (St.heapB H16.out 3 rfl) 0); have y1 := (blk_frozen (St.heapB H16.out 3 rfl) 1); have x0 : w16.cell? ⟨b4, 0, none⟩ = some (.slice none 0 0) := St.cellB H16.out 3 rfl 0 rfl; have x1 : w16.cell? ⟨b4, 1, none⟩ = some (.slice none 0 0) := St.cellB H16.out 3 rfl 1 rfl))
    have H9 := St.putB (St.putB H16.out 3 rfl 0 (.slice none 0 0) rfl) 3 rfl 1 (.slice A16 2 c16) rfl
    refine bodyPost_ret (results_cell_row rfl _ _ b4 29 #[.slice none 0 0, .slice A16 2 c16] (0, 0) _ rfl (St.heapB H9 3 rfl) Tryz.underlying29 rfl (by kernel_rfl)) rfl ?_
    exact ⟨none, 0, A16, c16, _, ok16, rfl, St.perm_ (St.less H9 (.cons_cons _ (.cons_cons _ (.cons_cons _ (.cons _ (List.Sublist.refl _)))))) (List.Perm.trans (List.Perm.swap _ _ _) (List.Perm.trans (.cons _ (List.Perm.swap _ _ _)) (List.Perm.trans (List.Perm.swap _ _ _) (List.Perm.refl _))))⟩
end

def bent7.T : Bool × List (List Nat × List Nat) := (true, [([], []), ([0], [0]), ([], []), ([], []), ([3], [3]), ([], []), ([4, 5], [4, 5]), ([6], [6]), ([], []), ([], []), ([8, 9], [8, 9]), ([10], [10]), ([7, 11, 10], [7, 11]), ([1, 2, 0, 1, 2, 3, 4, 5, 6, 7, 8, 9, 10, 11, 12], [1, 2]), ([13, 12, 12, 0, 1, 2, 3, 4, 5, 6, 7, 8, 9, 10, 11, 12], [12, 13])])
def bent7.B : List Nat := [0, 1, 0, 0, 8, 0, 56, 120, 0, 0, 768, 1792, 4088, 8191, 16383]
theorem bent7.tab : rtab .any (opsOf Tryz.f33 7) = bent7.T := by kernel_rfl
theorem bent7.bits : waitsOk bent7.T.2 bent7.B = true := by kernel_rfl
def bent10.T : Bool × List (List Nat × List Nat) := (true, [([], []), ([0], [0]), ([], []), ([1, 2], [1, 2]), ([3], [3]), ([], []), ([5], [5]), ([], []), ([6, 7], [6, 7]), ([8], [8]), ([9], [9]), ([10], [10]), ([11], [11]), ([4, 0, 1, 2, 3, 4, 5, 6, 7, 8, 9, 10, 11, 12], [4]), ([13, 12, 0, 1, 2, 3, 4, 5, 6, 7, 8, 9, 10, 11, 12], [12, 13])])
def bent10.B : List Nat := [0, 1, 0, 7, 15, 0, 32, 0, 224, 480, 992, 2016, 4064, 8191, 16383]
theorem bent10.tab : rtab .any (opsOf Tryz.f33 10) = bent10.T := by kernel_rfl
theorem bent10.bits : waitsOk bent10.T.2 bent10.B = true := by kernel_rfl
def bent12.T : Bool × List (List Nat × List Nat) := (true, [([], []), ([0], [0]), ([], []), ([], []), ([2, 3], [2, 3]), ([4], [4]), ([1, 5, 4], [1, 5]), ([0, 1, 2, 3, 4, 5, 6], []), ([7, 6, 6, 0, 1, 2, 3, 4, 5, 6], [6, 7])])
def bent12.B : List Nat := [0, 1, 0, 0, 12, 28, 63, 127, 255]
theorem bent12.tab : rtab .any (opsOf Tryz.f33 12) = bent12.T := by kernel_rfl
theorem bent12.bits : waitsOk bent12.T.2 bent12.B = true := by kernel_rfl
section
variable {w W : World} {L : List Ob} {g : Nat} {s : List Int} {i hh i' h' : Int}
def BentPost (w : World) (L : List Ob) (g : Nat) (s : List Int) (e : Ending) (W' : World) : Prop := ∃ v0 v1 ok0 ok1 n m i' h', e = .returned (.agg #[v0, v1]) ∧ St w W' (obC w g s i' h' :: obR (Kd.int .i64) 3 w ok0 v0 n :: obS (Kd.slice 3 (Kd.int .i64)) 24 w ok1 v1 m :: L) ∧  n.length ≤ 10 ∧ m.length ≤ 9 ∧ (∀ r ∈ m, r.length ≤ 11) ∧ Cur s i'
theorem St.boxes {w W : World} {L : List Ob} (h : St w W L) (i j : Nat) {b5 b4 t t' : Nat} {u0 u1 : Value} (hi : L[i]? = some (obB b5 #[u0, u1] t)) (hj : L[j]? = some (obB b4 #[.slice none 0 0, .slice none 0 0] t')) :
    W.cell? ⟨b5, 0, none⟩ = some u0 ∧ W.cell? ⟨b5, 1, none⟩ = some u1 ∧ W.cell? ⟨b4, 0, none⟩ = some (.slice none 0 0) ∧ W.cell? ⟨b4, 1, none⟩ = some (.slice none 0 0) ∧ W.frozen? ⟨b4, 0, none⟩ = false ∧ W.frozen? ⟨b4, 1, none⟩ = false :=
  ⟨St.cellB h i hi 0 rfl, St.cellB h i hi 1 rfl, St.cellB h j hj 0 rfl, St.cellB h j hj 1 rfl, blk_frozen (St.heapB h j hj) 0, blk_frozen (St.heapB h j hj) 1⟩
theorem cell_sameB {W W1 : World} {g j : Nat} (h : W1.heap[g]? = W.heap[g]?) : W1.cell? ⟨g, j, none⟩ = W.cell? ⟨g, j, none⟩ := by simp [World.cell?, h]
set_option maxHeartbeats 8000000 in
set_option maxRecDepth 100000 in
theorem l5Bent_st (h : St w W (obC w g s i hh :: L)) (hc : Cur s i) : Calls Tryz.prog 33 #[.pointer (some ⟨g, 0, none⟩), .int .i64 8] W (BentPost w L g s) := by
  obtain ⟨n, m, i1, h1, e1, hn, hm, hr, hc1⟩ := l5Draw_ok hh 8 hc (by omega) (by omega)
  obtain ⟨_, hn9, _⟩ := isPartition_bd hn
  have H0 := Aside0.mk h
  have E1 := Aside0.mk e1
  have HC := Aside0.mk hc
  have HR : Aside0 (∀ r ∈ m, r.length ≤ 9) := ⟨hr⟩
  have HN9 := Aside0.mk hn9
  have HM9 := Aside0.mk hm
  clear h e1 hc hn hr hn9 hm
  by_cases hm0 : m.length = 0
  · have hz : ((m.length : Int) == 0) = true := beq_iff_eq.mpr (by omega)
    have HC1 := Aside0.mk hc1
    clear hm0 hc1
    go_enter Tryz.func33, Tryz.ntmps33
    go_wp2_with (first
      | ((with_reducible refine gate_dst (N := 4) rfl ?_); refine zX (N := 4) (cs := #[.slice none 0 0, .slice none 0 0]) (t := 29) ?_; intro b4 hb4 w4 hx4 hl4; have H1 := Aside0.mk (St.swap (St.addB H0.out hx4 hb4 hl4)); clear hx4 hb4 hl4)
      | (go_at_call 54; refine (l5Draw_st H1.out HC.out 8 (by decide) (by decide) E1.out).mono ?_; rintro e w6 ⟨A6, c6, A7, c7, ok6, ok7, rfl, h_⟩; have H2 := Aside0.mk h_; clear h_)
      | ((with_reducible refine gate_dst (N := 5) rfl ?_); refine zX (N := 5) (cs := #[.slice none 0 0, .slice none 0 0]) (t := 29) ?_; intro b5 hb5 w7 hx5 hl5; have hne : b4 ≠ b5 := (by have := blk_lt (St.heapB H2.out 3 rfl); omega); have H3b := (St.swap (St.addB H2.out hx5 hb5 hl5)); clear hx5 hb5 hl5; have z0 := blk_frozen (St.heapB H3b 1 rfl) 0; have z1 := blk_frozen (St.heapB H3b 1 rfl) 1; obtain ⟨x0, x1, y0, y1, y2, y3⟩ := St.boxes H3b 1 4 (u0 := .slice none 0 0) (u1 := .slice none 0 0) rfl rfl; have H3 := Aside0.mk (St.putB (St.putB H3b 1 rfl 0 (.slice A6 n.length c6) rfl) 1 rfl 1 (.slice A7 m.length c7) rfl); clear H3b))
    have H9 := St.putB (St.putB H3.out 4 rfl 0 (.slice A6 n.length c6) rfl) 4 rfl 1 (.slice A7 m.length c7) rfl
    refine bodyPost_ret (results_cell_row rfl _ _ b4 29 #[.slice A6 n.length c6, .slice A7 m.length c7] (0, 0) _ rfl (St.heapB H9 4 rfl) Tryz.underlying29 rfl (by kernel_rfl)) rfl ?_
    unfold BentPost
    refine ⟨.slice A6 n.length c6, .slice A7 m.length c7, ok6, ok7, n, m, i1, h1, rfl, St.less H9 (.cons_cons _ (.cons _ (.cons_cons _ (.cons_cons _ (.cons _ (List.Sublist.refl _)))))), by have := HN9.out; omega, HM9.out, fun r h => by have := HR.out r h; omega, HC1.out⟩
  · have hz : ((m.length : Int) == 0) = false := beq_eq_false_iff_ne.mpr (by omega)
    obtain ⟨x, i2, h2, e2, x0, _, x1, hc2⟩ := below_ok h1 (m.length : Int) hc1 (by have := HM9.out; omega)
    have x1 := x1 (by omega)
    obtain ⟨r, rfl⟩ : ∃ r : Nat, x = (r : Int) := ⟨x.toNat, by omega⟩
    have hrm : r < m.length := by omega
    obtain ⟨q, i3, h3, e3, q0, _, q1, hc3⟩ := below_ok h2 16 hc2 (by omega)
    obtain ⟨row, hrow⟩ : ∃ row, m[r] = row := ⟨_, rfl⟩
    have E2 := Aside0.mk e2
    have E3 := Aside0.mk e3
    have HRM := Aside0.mk hrm
    have HROW := Aside0.mk hrow
    have HC3 := Aside0.mk hc3
    have hrl := HR.out row (by rw [← hrow]; exact List.getElem_mem hrm)
    have HRL9 : Aside0 (row.length ≤ 9) := ⟨hrl⟩
    have hr0 : (0 : Int) ≤ (r : Int) := by omega
    have hr1 : (r : Int) < (m.length : Int) := by omega
    have HSET : Aside0 (∀ row2 : List Int, row2.length ≤ 11 → ∀ r2 ∈ m.set r row2, r2.length ≤ 11) := ⟨fun row2 h2 r2 hr2 => by
      rcases List.mem_or_eq_of_mem_set hr2 with h | h
      · have := HR.out r2 h; omega
      · rw [h]; exact h2⟩
    clear e2 e3 hc1 hc2 hc3 hm0 q0 q1 hrow hrl x0 x1

    by_cases hq0 : q = 0
    · subst hq0
      obtain ⟨y, i4, h4, e4, hy, hc4⟩ := pick_ok h3 [0, 9, 10, -1] HC3.out (by simp) (by simp)
      have E4 := Aside0.mk e4
      have HC4 := Aside0.mk hc4
      clear e4 hc4 hy
      go_enter Tryz.func33, Tryz.ntmps33
      go_upto_region 7 with (first
        | ((with_reducible refine gate_dst (N := 4) rfl ?_); refine zX (N := 4) (cs := #[.slice none 0 0, .slice none 0 0]) (t := 29) ?_; intro b4 hb4 w4 hx4 hl4; have H1 := Aside0.mk (St.swap (St.addB H0.out hx4 hb4 hl4)); clear hx4 hb4 hl4)
        | (go_at_call 54; refine (l5Draw_st H1.out HC.out 8 (by decide) (by decide) E1.out).mono ?_; rintro e w6 ⟨A6, c6, A7, c7, ok6, ok7, rfl, h_⟩; have H2 := Aside0.mk h_; clear h_)
        | ((with_reducible refine gate_dst (N := 5) rfl ?_); refine zX (N := 5) (cs := #[.slice none 0 0, .slice none 0 0]) (t := 29) ?_; intro b5 hb5 w7 hx5 hl5; have hne : b4 ≠ b5 := (by have := blk_lt (St.heapB H2.out 3 rfl); omega); have H3b := (St.swap (St.addB H2.out hx5 hb5 hl5)); clear hx5 hb5 hl5; have z0 := blk_frozen (St.heapB H3b 1 rfl) 0; have z1 := blk_frozen (St.heapB H3b 1 rfl) 1; obtain ⟨x0, x1, y0, y1, y2, y3⟩ := St.boxes H3b 1 4 (u0 := .slice none 0 0) (u1 := .slice none 0 0) rfl rfl; have H3 := Aside0.mk (St.putB (St.putB H3b 1 rfl 0 (.slice A6 n.length c6) rfl) 1 rfl 1 (.slice A7 m.length c7) rfl); clear H3b)
        | (go_at_call 36; (with_reducible refine (l1Below_st H3.out E2.out).mono ?_); rintro e w8 ⟨rfl, h_⟩; clear x0 x1 y0 y1 y2 y3 z0 z1; have H4 := Aside0.mk h_; clear h_)
        | (go_at_call 36; (with_reducible refine (l1Below_st H4.out E3.out).mono ?_); rintro e w9 ⟨rfl, h_⟩; obtain ⟨g5, c_, A8, k8, hv, hgb, hcg, hfg, hle8, hrd8, hne8, hput8, hcut8⟩ := St.lendS h_ 3 rfl r HRM.out HROW.out; injection hv with ea el ec; subst ea ec; clear hgb hfg hle8 hrd8 hne8 hput8 hcut8 el; have H5 := Aside0.mk h_; clear h_; obtain ⟨x0, x1, y0, y1, y2, y3⟩ := St.boxes H5.out 1 4 (u0 := .slice A6 n.length c6) (u1 := .slice (some ⟨g5, 0, none⟩) m.length c7) rfl rfl))
      have HD := Aside0.mk (H5.out.quiet (below_drew (Below.refl _ _)))
      have z1 : w9.drew.cell? ⟨b5, 1, none⟩ = some (.slice (some ⟨g5, 0, none⟩) m.length c7) := St.cellB HD.out 1 rfl 1 rfl
      have zg : w9.drew.cell? ⟨g5, r, none⟩ = some (.slice A8 row.length k8) := hcg
      have HNG : Aside0 (g5 ≠ g ∧ g < w9.drew.heap.size) := ⟨fun e => by
        have h1 : Kd.S (Kd.slice 3 (Kd.int .i64)) 24 w9.drew w.heap.size ok7 (.slice (some ⟨g5, 0, none⟩) m.length c7) m := HD.out.get 3 rfl
        exact IsS67.own_neS (St.curC HD.out) h1 (by decide) (by rw [e]; rfl), IsS67.lt (St.curC HD.out)⟩
      clear hcg H5 x0 x1 y0 y1 y2 y3
      refine start_ (n := 15) (S := fun w' => w'.cell? ⟨b5, 1, none⟩ = some (.slice (some ⟨g5, 0, none⟩) m.length c7) ∧ w'.cell? ⟨g5, r, none⟩ = some (.slice A8 row.length k8)) (ds := [14]) #[false, false, false, false, false, false, false, false, false, false, false, false, false, false, false] (by kernel_rfl) rfl rfl ⟨z1, zg⟩ (fun hHeld => ?_)
      refine with_tabW bent7.tab bent7.bits (fun HT_ HW_ => ?_)
      generalize w9.drew = wd at HD HNG z1 zg hHeld ⊢
      refine zP (i := 0) (N := some 24) #[true, false, false, false, false, false, false, false, false, false, false, false, false, false, false] (zk HT_.out) ?_
      refine zP (i := 2) (N := some 26) #[true, false, true, false, false, false, false, false, false, false, false, false, false, false, false] (zk HT_.out) ?_
      refine zP (i := 3) (N := some 27) #[true, false, true, true, false, false, false, false, false, false, false, false, false, false, false] (zk HT_.out) ?_
      refine zP (i := 5) (N := some 29) #[true, false, true, true, false, true, false, false, false, false, false, false, false, false, false] (zk HT_.out) ?_
      refine zP (i := 8) (N := some 32) #[true, false, true, true, false, true, false, false, true, false, false, false, false, false, false] (zk HT_.out) ?_
      refine zT2 (i := 1) (N := some 25) #[true, true, true, true, false, true, false, false, true, false, false, false, false, false, false] (take_ofW HT_.out HW_.out (by kernel_rfl)) hHeld ?_
      refine zT2 (i := 4) (N := some 28) #[true, true, true, true, true, true, false, false, true, false, false, false, false, false, false] (take_ofW HT_.out HW_.out (by kernel_rfl)) hHeld ?_
      refine zP (i := 6) (N := some 30) #[true, true, true, true, true, true, true, false, true, false, false, false, false, false, false] (zk HT_.out) ?_
      refine zT2 (i := 7) (N := some 31) #[true, true, true, true, true, true, true, true, true, false, false, false, false, false, false] (take_ofW HT_.out HW_.out (by kernel_rfl)) hHeld ?_
      refine one_ (i := 9) (N := some 33) #[true, true, true, true, true, true, true, true, true, true, false, false, false, false, false] rfl rfl (one_of HT_.out (by kernel_rfl)) (by decide) (fun K hK => ?_)
      refine value_ (w1 := ?_) (v := ?_) (by rfl) rfl ?_ ?_
      rotate_left 2
      · go_simp
        constructor
        · rfl
        · rfl
      refine hK.out _ _ ⟨(World.cell?_alloc_lt _ _ _ (World.block_lt_of_cell? _ _ hHeld.1)).trans hHeld.1, (World.cell?_alloc_lt _ _ _ (World.block_lt_of_cell? _ _ hHeld.2)).trans hHeld.2⟩ (fun hHeld => ?_)
      clear hK K
      refine zM (some 33) ?_
      refine one_ (i := 10) (N := some 34) #[true, true, true, true, true, true, true, true, true, true, true, false, false, false, false] rfl rfl (one_of HT_.out (by kernel_rfl)) (by decide) (fun K hK => ?_)
      have HL := St.swap (St.boxE HD.out #[.int .i64 0, .int .i64 9, .int .i64 10, .int .i64 (-1)] 3 (b := wd.heap.size) rfl)
      refine goes_ Tryz.func53 (by kernel_rfl) rfl #[.pointer (some ⟨g, 0, none⟩), .slice (some ⟨wd.heap.size, 0, none⟩) 4 4] (by rfl) rfl rfl (by (try simp only [List.map_toArray, List.map_cons, List.map_nil]); first | done | rfl) ?_
      refine (l1PickInt_st (l := [0, 9, 10, -1]) HL (St.heapB HL 1 rfl) rfl (by decide) (by have := HNG.out.2; omega) E4.out).mono ?_
      rintro e wp ⟨rfl, h_, hk_⟩
      refine ⟨_, rfl, ?_⟩
      have HP := Aside0.mk h_
      have zp : wp.cell? ⟨b5, 1, none⟩ = some (.slice (some ⟨g5, 0, none⟩) m.length c7) := St.cellB h_ 2 rfl 1 rfl
      have gp : wp.cell? ⟨g5, r, none⟩ = some (.slice A8 row.length k8) := (cell_sameB (hk_.2 g5 (World.block_lt_of_cell? _ _ hHeld.2) HNG.out.1 (by simp))).trans hHeld.2
      clear h_ hk_ HL
      refine hK.out _ _ ⟨zp, gp⟩ (fun hHeld => ?_)
      clear hK K
      refine zM (some 34) ?_
      refine one_ (i := 11) (N := some 35) #[true, true, true, true, true, true, true, true, true, true, true, true, false, false, false] rfl rfl (one_of HT_.out (by kernel_rfl)) (by decide) (fun K hK => ?_)
      refine value_ (w1 := ?_) (v := ?_) (by rfl) rfl ?_ ?_
      rotate_left 2
      · go_simp
        constructor
        · rfl
        · rfl
      refine hK.out _ _ ⟨(World.cell?_alloc_lt _ _ _ (World.block_lt_of_cell? _ _ hHeld.1)).trans hHeld.1, (World.cell?_alloc_lt _ _ _ (World.block_lt_of_cell? _ _ hHeld.2)).trans hHeld.2⟩ (fun hHeld => ?_)
      clear hK K
      refine zM (some 35) ?_
      refine one_ (i := 12) (N := some 36) #[true, true, true, true, true, true, true, true, true, true, true, true, true, false, false] rfl rfl (one_of HT_.out (by kernel_rfl)) (by decide) (fun K hK => ?_)
      refine St.growRowG_step (x := y) (by rfl) (.tmp 31) (.tmp 35) (by rfl) HP.out 4 rfl r HRM.out HROW.out (by rfl) gp (by rfl) (by rfl) (by have := HRL9.out; omega) ?_
      intro A9 k9 wq hxq hfq hPq hq
      have zq : wq.cell? ⟨b5, 1, none⟩ = some (.slice (some ⟨g5, 0, none⟩) m.length c7) := (blk_cell (hPq 2 _ (by decide) rfl) 1).trans rfl
      refine hK.out _ _ ⟨zq, hxq⟩ (fun hHeld => ?_)
      clear hK K
      refine zM (some 36) ?_
      refine zP (i := 13) (N := some 37) #[true, true, true, true, true, true, true, true, true, true, true, true, true, true, false] (zk HT_.out) ?_
      refine last_ (i := 14) (N := none) #[true, true, true, true, true, true, true, true, true, true, true, true, true, true, true] rfl rfl (one_of HT_.out (by kernel_rfl)) (by decide) (fun K hK => ?_)
      refine skip_ (w1 := ?_) (by rfl) rfl ?_ ?_
      rotate_left
      · go_simp
        rfl
      refine hK.out _ _ ?_
      clear hK K
      refine done_ (done_of HT_.out (by kernel_rfl)) ?_
      obtain ⟨okq, hq⟩ := hq
      clear hxq hfq hPq zq hHeld zp gp z1 zg HP
      generalize wq.setCell ⟨g5, r, none⟩ (.slice A9 (row.length + 1) k9) = wr at hq ⊢
      have HQ := Aside0.mk hq
      clear hq
      obtain ⟨x0, x1, y0, y1, y2, y3⟩ := St.boxes HQ.out 2 5 (u0 := .slice A6 n.length c6) (u1 := .slice (some ⟨g5, 0, none⟩) m.length c7) rfl rfl
      go_wp2
      have H9 := St.putB (St.putB HQ.out 5 rfl 0 (.slice A6 n.length c6) rfl) 5 rfl 1 (.slice (some ⟨g5, 0, none⟩) m.length c7) rfl
      refine bodyPost_ret (results_cell_row rfl _ _ b4 29 #[.slice A6 n.length c6, .slice (some ⟨g5, 0, none⟩) m.length c7] (0, 0) _ rfl (St.heapB H9 5 rfl) Tryz.underlying29 rfl (by kernel_rfl)) rfl ?_
      unfold BentPost
      refine ⟨.slice A6 n.length c6, .slice (some ⟨g5, 0, none⟩) m.length c7, ok6, okq, ?_⟩
      refine ⟨n, m.set r (row ++ [y]), ?_⟩
      refine ⟨i4, h4, rfl, St.less H9 (.cons_cons _ (.cons _ (.cons _ (.cons_cons _ (.cons_cons _ (.cons _ (List.Sublist.refl _))))))), by have := HN9.out; omega, by rw [List.length_set]; exact HM9.out, ?_, HC4.out⟩
      exact HSET.out _ (by have := HRL9.out; rw [List.length_append, List.length_singleton]; omega)
    · have hz0 : (q == 0) = false := beq_eq_false_iff_ne.mpr hq0
      by_cases hq1 : q = 1
      · subst hq1
        by_cases hrl0 : row.length = 0
        · have hgt : ¬ (0 : Int) < (row.length : Int) := by omega
          clear hrl0 hz0 hq0
          go_enter Tryz.func33, Tryz.ntmps33
          go_wp2_with (first
            | ((with_reducible refine gate_dst (N := 4) rfl ?_); refine zX (N := 4) (cs := #[.slice none 0 0, .slice none 0 0]) (t := 29) ?_; intro b4 hb4 w4 hx4 hl4; have H1 := Aside0.mk (St.swap (St.addB H0.out hx4 hb4 hl4)); clear hx4 hb4 hl4)
            | (go_at_call 54; refine (l5Draw_st H1.out HC.out 8 (by decide) (by decide) E1.out).mono ?_; rintro e w6 ⟨A6, c6, A7, c7, ok6, ok7, rfl, h_⟩; have H2 := Aside0.mk h_; clear h_)
            | ((with_reducible refine gate_dst (N := 5) rfl ?_); refine zX (N := 5) (cs := #[.slice none 0 0, .slice none 0 0]) (t := 29) ?_; intro b5 hb5 w7 hx5 hl5; have hne : b4 ≠ b5 := (by have := blk_lt (St.heapB H2.out 3 rfl); omega); have H3b := (St.swap (St.addB H2.out hx5 hb5 hl5)); clear hx5 hb5 hl5; have z0 := blk_frozen (St.heapB H3b 1 rfl) 0; have z1 := blk_frozen (St.heapB H3b 1 rfl) 1; obtain ⟨x0, x1, y0, y1, y2, y3⟩ := St.boxes H3b 1 4 (u0 := .slice none 0 0) (u1 := .slice none 0 0) rfl rfl; have H3 := Aside0.mk (St.putB (St.putB H3b 1 rfl 0 (.slice A6 n.length c6) rfl) 1 rfl 1 (.slice A7 m.length c7) rfl); clear H3b)
            | (go_at_call 36; (with_reducible refine (l1Below_st H3.out E2.out).mono ?_); rintro e w8 ⟨rfl, h_⟩; clear x0 x1 y0 y1 y2 y3 z0 z1; have H4 := Aside0.mk h_; clear h_)
            | (go_at_call 36; (with_reducible refine (l1Below_st H4.out E3.out).mono ?_); rintro e w9 ⟨rfl, h_⟩; obtain ⟨g5, c_, A8, k8, hv, hgb, hcg, hfg, hle8, hrd8, hne8, hput8, hcut8⟩ := St.lendS h_ 3 rfl r HRM.out HROW.out; injection hv with ea el ec; subst ea ec; clear hgb hfg hle8 hrd8 hne8 hput8 hcut8 el; have H5 := Aside0.mk h_; clear h_; obtain ⟨x0, x1, y0, y1, y2, y3⟩ := St.boxes H5.out 1 4 (u0 := .slice A6 n.length c6) (u1 := .slice (some ⟨g5, 0, none⟩) m.length c7) rfl rfl))
          have H9 := St.putB (St.putB H5.out 4 rfl 0 (.slice A6 n.length c6) rfl) 4 rfl 1 (.slice (some ⟨g5, 0, none⟩) m.length c7) rfl
          refine bodyPost_ret (results_cell_row rfl _ _ b4 29 #[.slice A6 n.length c6, .slice (some ⟨g5, 0, none⟩) m.length c7] (0, 0) _ rfl (St.heapB H9 4 rfl) Tryz.underlying29 rfl (by kernel_rfl)) rfl ?_
          unfold BentPost
          refine ⟨.slice A6 n.length c6, .slice (some ⟨g5, 0, none⟩) m.length c7, ok6, ok7, ?_⟩
          refine ⟨n, m, ?_⟩
          refine ⟨i3, h3, rfl, St.less H9 (.cons_cons _ (.cons _ (.cons_cons _ (.cons_cons _ (.cons _ (List.Sublist.refl _)))))), by have := HN9.out; omega, HM9.out, ?_, HC3.out⟩
          exact fun r h => by have := HR.out r h; omega
        · have hgt : (0 : Int) < (row.length : Int) := by omega
          clear hrl0 hz0 hq0
          go_enter Tryz.func33, Tryz.ntmps33
          go_upto_region 10 with (first
            | ((with_reducible refine gate_dst (N := 4) rfl ?_); refine zX (N := 4) (cs := #[.slice none 0 0, .slice none 0 0]) (t := 29) ?_; intro b4 hb4 w4 hx4 hl4; have H1 := Aside0.mk (St.swap (St.addB H0.out hx4 hb4 hl4)); clear hx4 hb4 hl4)
            | (go_at_call 54; refine (l5Draw_st H1.out HC.out 8 (by decide) (by decide) E1.out).mono ?_; rintro e w6 ⟨A6, c6, A7, c7, ok6, ok7, rfl, h_⟩; have H2 := Aside0.mk h_; clear h_)
            | ((with_reducible refine gate_dst (N := 5) rfl ?_); refine zX (N := 5) (cs := #[.slice none 0 0, .slice none 0 0]) (t := 29) ?_; intro b5 hb5 w7 hx5 hl5; have hne : b4 ≠ b5 := (by have := blk_lt (St.heapB H2.out 3 rfl); omega); have H3b := (St.swap (St.addB H2.out hx5 hb5 hl5)); clear hx5 hb5 hl5; have z0 := blk_frozen (St.heapB H3b 1 rfl) 0; have z1 := blk_frozen (St.heapB H3b 1 rfl) 1; obtain ⟨x0, x1, y0, y1, y2, y3⟩ := St.boxes H3b 1 4 (u0 := .slice none 0 0) (u1 := .slice none 0 0) rfl rfl; have H3 := Aside0.mk (St.putB (St.putB H3b 1 rfl 0 (.slice A6 n.length c6) rfl) 1 rfl 1 (.slice A7 m.length c7) rfl); clear H3b)
            | (go_at_call 36; (with_reducible refine (l1Below_st H3.out E2.out).mono ?_); rintro e w8 ⟨rfl, h_⟩; clear x0 x1 y0 y1 y2 y3 z0 z1; have H4 := Aside0.mk h_; clear h_)
            | (go_at_call 36; (with_reducible refine (l1Below_st H4.out E3.out).mono ?_); rintro e w9 ⟨rfl, h_⟩; obtain ⟨g5, c_, A8, k8, hv, hgb, hcg, hfg, hle8, hrd8, hne8, hput8, hcut8⟩ := St.lendS h_ 3 rfl r HRM.out HROW.out; injection hv with ea el ec; subst ea ec; clear hgb hfg hle8 hrd8 hne8 hput8 hcut8 el; have H5 := Aside0.mk h_; clear h_; obtain ⟨x0, x1, y0, y1, y2, y3⟩ := St.boxes H5.out 1 4 (u0 := .slice A6 n.length c6) (u1 := .slice (some ⟨g5, 0, none⟩) m.length c7) rfl rfl))
          have HD := Aside0.mk (H5.out.quiet (below_drew (Below.refl _ _)))
          have z1 : w9.drew.cell? ⟨b5, 1, none⟩ = some (.slice (some ⟨g5, 0, none⟩) m.length c7) := St.cellB HD.out 1 rfl 1 rfl
          clear hcg H5 x0 x1 y0 y1 y2 y3
          obtain ⟨g_, c_, A9, k9, hv, hgb, hcg, hfg, hle8, hrd8, hne8, hput8, hcut8⟩ := St.lendS HD.out 3 rfl r HRM.out HROW.out
          injection hv with ea_ el_ ec_
          injection ea_ with ea_
          injection ea_ with ea_ _ _
          subst ea_
          obtain ⟨g1, rfl, hg1⟩ := hne8 (by omega)
          obtain ⟨hcell, hfz, hst⟩ := hput8 0 g1 (by omega) rfl
          clear el_ ec_ hgb hfg hle8 hrd8 hne8 hput8 hcut8 hg1
          obtain ⟨a0, ha0⟩ : ∃ a0, a0 = rd row ((0 : Nat) : Int) := ⟨_, rfl⟩
          rw [← ha0] at hcell
          clear ha0
          refine start_ (n := 15) (S := fun w' => w'.cell? ⟨b5, 1, none⟩ = some (.slice (some ⟨g5, 0, none⟩) m.length c7) ∧ w'.cell? ⟨g5, r, none⟩ = some (.slice (some ⟨g1, 0, none⟩) row.length k9) ∧ w'.cell? ⟨g1, 0, none⟩ = some (.int .i64 a0)) (ds := [14]) #[false, false, false, false, false, false, false, false, false, false, false, false, false, false, false] (by kernel_rfl) rfl rfl ⟨z1, hcg, hcell⟩ (fun hHeld => ?_)
          refine with_tabW bent10.tab bent10.bits (fun HT_ HW_ => ?_)
          generalize w9.drew = wd at HD z1 hcg hcell hfz hst hHeld ⊢
          refine zP (i := 0) (N := some 47) #[true, false, false, false, false, false, false, false, false, false, false, false, false, false, false] (zk HT_.out) ?_
          refine zT3 (i := 1) (N := some 48) #[true, true, false, false, false, false, false, false, false, false, false, false, false, false, false] (take_ofW HT_.out HW_.out (by kernel_rfl)) hHeld ?_
          refine zP (i := 2) (N := some 49) #[true, true, true, false, false, false, false, false, false, false, false, false, false, false, false] (zk HT_.out) ?_
          refine zP (i := 3) (N := some 50) #[true, true, true, true, false, false, false, false, false, false, false, false, false, false, false] (zk HT_.out) ?_
          refine zT3 (i := 4) (N := some 51) #[true, true, true, true, true, false, false, false, false, false, false, false, false, false, false] (take_ofW HT_.out HW_.out (by kernel_rfl)) hHeld ?_
          refine zP (i := 5) (N := some 52) #[true, true, true, true, true, true, false, false, false, false, false, false, false, false, false] (zk HT_.out) ?_
          refine zT3 (i := 6) (N := some 53) #[true, true, true, true, true, true, true, false, false, false, false, false, false, false, false] (take_ofW HT_.out HW_.out (by kernel_rfl)) hHeld ?_
          refine zP (i := 7) (N := some 54) #[true, true, true, true, true, true, true, true, false, false, false, false, false, false, false] (zk HT_.out) ?_
          refine zP (i := 8) (N := some 55) #[true, true, true, true, true, true, true, true, true, false, false, false, false, false, false] (zk HT_.out) ?_
          refine zT3 (i := 9) (N := some 56) #[true, true, true, true, true, true, true, true, true, true, false, false, false, false, false] (take_ofW HT_.out HW_.out (by kernel_rfl)) hHeld ?_
          refine zP (i := 10) (N := some 57) #[true, true, true, true, true, true, true, true, true, true, true, false, false, false, false] (zk HT_.out) ?_
          refine zT3 (i := 11) (N := some 58) #[true, true, true, true, true, true, true, true, true, true, true, true, false, false, false] (take_ofW HT_.out HW_.out (by kernel_rfl)) hHeld ?_
          refine zP (i := 12) (N := some 59) #[true, true, true, true, true, true, true, true, true, true, true, true, true, false, false] (zk HT_.out) ?_
          refine zP (i := 13) (N := some 60) #[true, true, true, true, true, true, true, true, true, true, true, true, true, true, false] (zk HT_.out) ?_
          refine last_ (i := 14) (N := none) #[true, true, true, true, true, true, true, true, true, true, true, true, true, true, true] rfl rfl (one_of HT_.out (by kernel_rfl)) (by decide) (fun K hK => ?_)
          refine skip_ (w1 := ?_) (by rfl) rfl ?_ ?_
          rotate_left
          · go_simp
            rfl
          refine hK.out _ _ ?_
          clear hK K
          refine done_ (done_of HT_.out (by kernel_rfl)) ?_
          have HQ := Aside0.mk (hst (wrap64 (a0 + 1)))
          clear hst hHeld z1 hcg hcell hfz HD
          generalize wd.setCell ⟨g1, 0, none⟩ (.int .i64 (wrap64 (a0 + 1))) = wr at HQ ⊢
          obtain ⟨x0, x1, y0, y1, y2, y3⟩ := St.boxes HQ.out 1 4 (u0 := .slice A6 n.length c6) (u1 := .slice (some ⟨g5, 0, none⟩) m.length c7) rfl rfl
          go_wp2
          have H9 := St.putB (St.putB HQ.out 4 rfl 0 (.slice A6 n.length c6) rfl) 4 rfl 1 (.slice (some ⟨g5, 0, none⟩) m.length c7) rfl
          refine bodyPost_ret (results_cell_row rfl _ _ b4 29 #[.slice A6 n.length c6, .slice (some ⟨g5, 0, none⟩) m.length c7] (0, 0) _ rfl (St.heapB H9 4 rfl) Tryz.underlying29 rfl (by kernel_rfl)) rfl ?_
          unfold BentPost
          refine ⟨.slice A6 n.length c6, .slice (some ⟨g5, 0, none⟩) m.length c7, ok6, ok7, ?_⟩
          refine ⟨n, m.set r (row.set 0 (wrap64 (a0 + 1))), ?_⟩
          refine ⟨i3, h3, rfl, St.less H9 (.cons_cons _ (.cons _ (.cons_cons _ (.cons_cons _ (.cons _ (List.Sublist.refl _)))))), by have := HN9.out; omega, by rw [List.length_set]; exact HM9.out, ?_, HC3.out⟩
          exact HSET.out _ (by have := HRL9.out; rw [List.length_set]; omega)
      · have hz1 : (q == 1) = false := beq_eq_false_iff_ne.mpr hq1
        by_cases hq2 : q = 2
        · subst hq2
          obtain ⟨y, i4, h4, e4, hy, hc4⟩ := pick_ok h3 [1, 0, -1, 9] HC3.out (by simp) (by simp)
          have E4 := Aside0.mk e4
          have HC4 := Aside0.mk hc4
          obtain ⟨n2, hn2⟩ : ∃ n2, n2 = n ++ [y] := ⟨_, rfl⟩
          have HN2 := Aside0.mk hn2
          clear e4 hc4 hy hn2 hz0 hz1 hq0 hq1
          go_enter Tryz.func33, Tryz.ntmps33
          go_upto_region 12 with (first
            | ((with_reducible refine gate_dst (N := 4) rfl ?_); refine zX (N := 4) (cs := #[.slice none 0 0, .slice none 0 0]) (t := 29) ?_; intro b4 hb4 w4 hx4 hl4; have H1 := Aside0.mk (St.swap (St.addB H0.out hx4 hb4 hl4)); clear hx4 hb4 hl4)
            | (go_at_call 54; refine (l5Draw_st H1.out HC.out 8 (by decide) (by decide) E1.out).mono ?_; rintro e w6 ⟨A6, c6, A7, c7, ok6, ok7, rfl, h_⟩; have H2 := Aside0.mk h_; clear h_)
            | ((with_reducible refine gate_dst (N := 5) rfl ?_); refine zX (N := 5) (cs := #[.slice none 0 0, .slice none 0 0]) (t := 29) ?_; intro b5 hb5 w7 hx5 hl5; have hne : b4 ≠ b5 := (by have := blk_lt (St.heapB H2.out 3 rfl); omega); have H3b := (St.swap (St.addB H2.out hx5 hb5 hl5)); clear hx5 hb5 hl5; have z0 := blk_frozen (St.heapB H3b 1 rfl) 0; have z1 := blk_frozen (St.heapB H3b 1 rfl) 1; obtain ⟨x0, x1, y0, y1, y2, y3⟩ := St.boxes H3b 1 4 (u0 := .slice none 0 0) (u1 := .slice none 0 0) rfl rfl; have H3 := Aside0.mk (St.putB (St.putB H3b 1 rfl 0 (.slice A6 n.length c6) rfl) 1 rfl 1 (.slice A7 m.length c7) rfl); clear H3b)
            | (go_at_call 36; (with_reducible refine (l1Below_st H3.out E2.out).mono ?_); rintro e w8 ⟨rfl, h_⟩; clear x0 x1 y0 y1 y2 y3 z0 z1; have H4 := Aside0.mk h_; clear h_)
            | (go_at_call 36; (with_reducible refine (l1Below_st H4.out E3.out).mono ?_); rintro e w9 ⟨rfl, h_⟩; obtain ⟨g5, c_, A8, k8, hv, hgb, hcg, hfg, hle8, hrd8, hne8, hput8, hcut8⟩ := St.lendS h_ 3 rfl r HRM.out HROW.out; injection hv with ea el ec; subst ea ec; clear hgb hfg hle8 hrd8 hne8 hput8 hcut8 el; have H5 := Aside0.mk h_; clear h_; obtain ⟨x0, x1, y0, y1, y2, y3⟩ := St.boxes H5.out 1 4 (u0 := .slice A6 n.length c6) (u1 := .slice (some ⟨g5, 0, none⟩) m.length c7) rfl rfl))
          have HD := Aside0.mk (H5.out.quiet (below_drew (Below.refl _ _)))
          have z1 : w9.drew.cell? ⟨b5, 0, none⟩ = some (.slice A6 n.length c6) := St.cellB HD.out 1 rfl 0 rfl
          have HNG : Aside0 (g < w9.drew.heap.size) := ⟨IsS67.lt (St.curC HD.out)⟩
          clear hcg H5 x0 x1 y0 y1 y2 y3
          refine start_ (n := 9) (S := fun w' => w'.cell? ⟨b5, 0, none⟩ = some (.slice A6 n.length c6)) (ds := [8]) #[false, false, false, false, false, false, false, false, false] (by kernel_rfl) rfl rfl z1 (fun hHeld => ?_)
          refine with_tabW bent12.tab bent12.bits (fun HT_ HW_ => ?_)
          generalize w9.drew = wd at HD HNG z1 hHeld ⊢
          refine zP (i := 0) (N := some 63) #[true, false, false, false, false, false, false, false, false] (zk HT_.out) ?_
          refine zT1 (i := 1) (N := some 64) #[true, true, false, false, false, false, false, false, false] (take_ofW HT_.out HW_.out (by kernel_rfl)) hHeld ?_
          refine zP (i := 2) (N := some 65) #[true, true, true, false, false, false, false, false, false] (zk HT_.out) ?_
          refine one_ (i := 3) (N := some 66) #[true, true, true, true, false, false, false, false, false] rfl rfl (one_of HT_.out (by kernel_rfl)) (by decide) (fun K hK => ?_)
          refine value_ (w1 := ?_) (v := ?_) (by rfl) rfl ?_ ?_
          rotate_left 2
          · go_simp
            constructor
            · rfl
            · rfl
          refine hK.out _ _ ((World.cell?_alloc_lt _ _ _ (World.block_lt_of_cell? _ _ hHeld)).trans hHeld) (fun hHeld => ?_)
          clear hK K
          refine zM (some 66) ?_
          refine one_ (i := 4) (N := some 67) #[true, true, true, true, true, false, false, false, false] rfl rfl (one_of HT_.out (by kernel_rfl)) (by decide) (fun K hK => ?_)
          have HL := St.swap (St.boxE HD.out #[.int .i64 1, .int .i64 0, .int .i64 (-1), .int .i64 9] 3 (b := wd.heap.size) rfl)
          refine goes_ Tryz.func53 (by kernel_rfl) rfl #[.pointer (some ⟨g, 0, none⟩), .slice (some ⟨wd.heap.size, 0, none⟩) 4 4] (by rfl) rfl rfl (by (try simp only [List.map_toArray, List.map_cons, List.map_nil]); first | done | rfl) ?_
          refine (l1PickInt_st (l := [1, 0, -1, 9]) HL (St.heapB HL 1 rfl) rfl (by decide) (by have := HNG.out; omega) E4.out).mono ?_
          rintro e wp ⟨rfl, h_, hk_⟩
          refine ⟨_, rfl, ?_⟩
          have HP := Aside0.mk h_
          have zp : wp.cell? ⟨b5, 0, none⟩ = some (.slice A6 n.length c6) := St.cellB h_ 2 rfl 0 rfl
          clear h_ hk_ HL
          refine hK.out _ _ zp (fun hHeld => ?_)
          clear hK K
          refine zM (some 67) ?_
          refine one_ (i := 5) (N := some 68) #[true, true, true, true, true, true, false, false, false] rfl rfl (one_of HT_.out (by kernel_rfl)) (by decide) (fun K hK => ?_)
          refine value_ (w1 := ?_) (v := ?_) (by rfl) rfl ?_ ?_
          rotate_left 2
          · go_simp
            constructor
            · rfl
            · rfl
          refine hK.out _ _ ((World.cell?_alloc_lt _ _ _ (World.block_lt_of_cell? _ _ hHeld)).trans hHeld) (fun hHeld => ?_)
          clear hK K
          refine zM (some 68) ?_
          refine one_ (i := 6) (N := some 69) #[true, true, true, true, true, true, true, false, false] rfl rfl (one_of HT_.out (by kernel_rfl)) (by decide) (fun K hK => ?_)
          have HB2 := St.boxE HP.out #[.int .i64 y] 3 (b := wp.heap.size) rfl
          refine St.putInts_step (by rfl) (.tmp 64) (.tmp 68) (by rfl) HB2 4 rfl (by rfl) (by rfl) (ints_C (xs := [y]) (St.heapB HB2 0 rfl) rfl (by simp)) (by have := HN9.out; simp; omega) ?_
          intro v9 wq okq h_
          rw [← HN2.out] at h_
          obtain ⟨A9, c9, e9⟩ := Kd.R_slice (show Kd.R (Kd.int .i64) 3 wq w.heap.size okq v9 n2 from h_.get 4 rfl)
          subst e9
          have HQ := Aside0.mk h_
          have zq : wq.cell? ⟨b5, 0, none⟩ = some (.slice A6 n.length c6) := St.cellB h_ 3 rfl 0 rfl
          have fq := blk_frozen (St.heapB h_ 3 rfl) 0
          clear h_ HB2
          refine hK.out _ _ zq (fun hHeld => ?_)
          clear hK K
          refine zM (some 69) ?_
          refine zP (i := 7) (N := some 70) #[true, true, true, true, true, true, true, true, false] (zk HT_.out) ?_
          refine last_ (i := 8) (N := none) #[true, true, true, true, true, true, true, true, true] rfl rfl (one_of HT_.out (by kernel_rfl)) (by decide) (fun K hK => ?_)
          refine skip_ (w1 := ?_) (by rfl) rfl ?_ ?_
          rotate_left
          · go_simp
            rfl
          refine hK.out _ _ ?_
          clear hK K
          refine done_ (done_of HT_.out (by kernel_rfl)) ?_
          have HQ2 := Aside0.mk (St.putB HQ.out 3 rfl 0 (.slice A9 n2.length c9) rfl)
          clear zq fq hHeld zp z1 HP HQ HD
          generalize wq.setCell ⟨b5, 0, none⟩ (.slice A9 n2.length c9) = wr at HQ2 ⊢
          obtain ⟨x0, x1, y0, y1, y2, y3⟩ := St.boxes HQ2.out 3 6 (u0 := .slice A9 n2.length c9) (u1 := .slice (some ⟨g5, 0, none⟩) m.length c7) rfl rfl
          go_wp2
          have H9 := St.putB (St.putB HQ2.out 6 rfl 0 (.slice A9 n2.length c9) rfl) 6 rfl 1 (.slice (some ⟨g5, 0, none⟩) m.length c7) rfl
          refine bodyPost_ret (results_cell_row rfl _ _ b4 29 #[.slice A9 n2.length c9, .slice (some ⟨g5, 0, none⟩) m.length c7] (0, 0) _ rfl (St.heapB H9 6 rfl) Tryz.underlying29 rfl (by kernel_rfl)) rfl ?_
          unfold BentPost
          refine ⟨.slice A9 n2.length c9, .slice (some ⟨g5, 0, none⟩) m.length c7, okq, ok7, ?_⟩
          refine ⟨n2, m, ?_⟩
          refine ⟨i4, h4, rfl, St.less H9 (.cons _ (.cons_cons _ (.cons _ (.cons _ (.cons_cons _ (.cons_cons _ (.cons _ (List.Sublist.refl _)))))))), by have := HN9.out; have e := HN2.out; rw [e, List.length_append, List.length_singleton]; omega, HM9.out, ?_, HC4.out⟩
          exact fun r h => by have := HR.out r h; omega
        · have hz2 : (q == 2) = false := beq_eq_false_iff_ne.mpr hq2
          clear hq0 hq1 hq2
          go_enter Tryz.func33, Tryz.ntmps33
          go_wp2_with (first
            | ((with_reducible refine gate_dst (N := 4) rfl ?_); refine zX (N := 4) (cs := #[.slice none 0 0, .slice none 0 0]) (t := 29) ?_; intro b4 hb4 w4 hx4 hl4; have H1 := Aside0.mk (St.swap (St.addB H0.out hx4 hb4 hl4)); clear hx4 hb4 hl4)
            | (go_at_call 54; refine (l5Draw_st H1.out HC.out 8 (by decide) (by decide) E1.out).mono ?_; rintro e w6 ⟨A6, c6, A7, c7, ok6, ok7, rfl, h_⟩; have H2 := Aside0.mk h_; clear h_)
            | ((with_reducible refine gate_dst (N := 5) rfl ?_); refine zX (N := 5) (cs := #[.slice none 0 0, .slice none 0 0]) (t := 29) ?_; intro b5 hb5 w7 hx5 hl5; have hne : b4 ≠ b5 := (by have := blk_lt (St.heapB H2.out 3 rfl); omega); have H3b := (St.swap (St.addB H2.out hx5 hb5 hl5)); clear hx5 hb5 hl5; have z0 := blk_frozen (St.heapB H3b 1 rfl) 0; have z1 := blk_frozen (St.heapB H3b 1 rfl) 1; obtain ⟨x0, x1, y0, y1, y2, y3⟩ := St.boxes H3b 1 4 (u0 := .slice none 0 0) (u1 := .slice none 0 0) rfl rfl; have H3 := Aside0.mk (St.putB (St.putB H3b 1 rfl 0 (.slice A6 n.length c6) rfl) 1 rfl 1 (.slice A7 m.length c7) rfl); clear H3b)
            | (go_at_call 36; (with_reducible refine (l1Below_st H3.out E2.out).mono ?_); rintro e w8 ⟨rfl, h_⟩; clear x0 x1 y0 y1 y2 y3 z0 z1; have H4 := Aside0.mk h_; clear h_)
            | (go_at_call 36; (with_reducible refine (l1Below_st H4.out E3.out).mono ?_); rintro e w9 ⟨rfl, h_⟩; obtain ⟨g5, c_, A8, k8, hv, hgb, hcg, hfg, hle8, hrd8, hne8, hput8, hcut8⟩ := St.lendS h_ 3 rfl r HRM.out HROW.out; injection hv with ea el ec; subst ea ec; clear hgb hfg hle8 hrd8 hne8 hput8 hcut8 el; have H5 := Aside0.mk h_; clear h_; obtain ⟨x0, x1, y0, y1, y2, y3⟩ := St.boxes H5.out 1 4 (u0 := .slice A6 n.length c6) (u1 := .slice (some ⟨g5, 0, none⟩) m.length c7) rfl rfl))
          have H9 := St.putB (St.putB H5.out 4 rfl 0 (.slice A6 n.length c6) rfl) 4 rfl 1 (.slice (some ⟨g5, 0, none⟩) m.length c7) rfl
          refine bodyPost_ret (results_cell_row rfl _ _ b4 29 #[.slice A6 n.length c6, .slice (some ⟨g5, 0, none⟩) m.length c7] (0, 0) _ rfl (St.heapB H9 4 rfl) Tryz.underlying29 rfl (by kernel_rfl)) rfl ?_
          unfold BentPost
          refine ⟨.slice A6 n.length c6, .slice (some ⟨g5, 0, none⟩) m.length c7, ok6, ok7, ?_⟩
          refine ⟨n, m, ?_⟩
          refine ⟨i3, h3, rfl, St.less H9 (.cons_cons _ (.cons _ (.cons_cons _ (.cons_cons _ (.cons _ (List.Sublist.refl _)))))), by have := HN9.out; omega, HM9.out, ?_, HC3.out⟩
          exact fun r h => by have := HR.out r h; omega
end
end Go.Proofs.YtpandocpclecgaaGreatDoor.Q

set_option linter.unusedVariables false
set_option linter.unusedSimpArgs false
namespace Go.Proofs.YtpandocpclecgaaGreatDoor.Q
open Go.RowKit Go.Proofs.YtpandocpclecgaaGreatDoor.F Go.Proofs.YtpandocpclecgaaGreatDoorW.PrintWords Go.Proofs.YtpandocpclecgaaGreatDoorW.PrintLast Go.Proofs.YtpandocpclecgaaGreatDoorW.PrintMore
theorem St.addApart {w W W' : World} {L : List Ob} {o : Ob} (h : St w W L) (hb : Below W.heap.size W W') (hn : ∀ k, o.ok k → w.heap.size ≤ k ∧ k < W'.heap.size) (ha : ∀ p ∈ L, ∀ k, o.ok k → ¬ p.ok k) (hP : o.P W') (hf : Firm o) : St w W' (o :: L) := by
  have hq := h.quiet hb
  refine ⟨hq.below, fun p hp => ?_, List.Pairwise.cons (fun p hp k hk hk2 => ha p hp k hk hk2) hq.apart⟩
  rcases List.mem_cons.1 hp with rfl | hp
  · exact ⟨hn, hP, hf⟩
  · exact hq.own p hp
def DrawnPost (w : World) (e : Ending) (w' : World) : Prop := ∃ v0 v1 n m, e = .returned (.agg #[v0, v1]) ∧ Kd.R (Kd.int .i64) 3 w' w.heap.size (fun _ => True) v0 n ∧ Kd.S (Kd.slice 3 (Kd.int .i64)) 24 w' w.heap.size (fun k => some k ≠ v0.ownBlock) v1 m ∧ Below w.heap.size w w' ∧ n.length ≤ 10 ∧ m.length ≤ 9 ∧ ∀ r ∈ m, r.length ≤ 11
set_option maxHeartbeats 1000000 in
set_option maxRecDepth 100000 in
theorem drawTab_calls (A : Option Addr) (c : Nat) (l : List Int) (w : World) (hr : Kd.C (Kd.int .u8) w A l.length l) (hc : l.length ≤ c) (hb : l.length ≤ 1048576) : Calls Tryz.prog 7 #[.slice A l.length c] w (DrawnPost w) := by
  obtain ⟨h0, e0⟩ := new_ok l hb
  obtain ⟨K, hK⟩ := e0
  have E0 := Aside0.mk (hK K (Nat.le_refl _))
  have H0 := Aside0.mk (St.start w)
  have HR := Aside0.mk hr
  have HC := Aside0.mk hc
  have HU := Aside0.mk (cur_start hb)
  clear hK hr hc hb
  go_enter Tryz.func7, Tryz.ntmps7
  go_wp2_with (first
    | ((with_reducible refine gate_dst (N := 2) rfl ?_); refine zX (N := 2) (cs := #[.slice none 0 0, .slice none 0 0]) (t := 29) ?_; intro b4 hb4 w4 hx4 hl4; have H1 := Aside0.mk (St.addB H0.out hx4 hb4 hl4); clear hx4 hb4 hl4)
    | (go_at_call 32; refine (spec_l1New.calls K A c l l 0 h0 w _ H1.out.below HR.out HC.out E0.out).mono ?_; rintro e w5 ⟨g5, rfl, hI, hB, hB2⟩; have H2 := Aside0.mk (St.addApart (o := obC w g5 l 0 h0) H1.out hB2 (fun k hk => by have e5 : k = g5 := hk; subst e5; exact ⟨IsS67.ge hI, IsS67.lt hI⟩) (fun p hp k hk hk2 => by have e5 : k = g5 := hk; subst e5; obtain rfl := List.mem_singleton.1 hp; have e6 : k = b4 := hk2; exact IsS67.ne_blk hI (St.heapB (St.quiet H1.out hB2) 0 rfl) (by decide) e6) hI firmC); clear hI hB hB2)
    | (go_at_call 33; refine (l5Bent_st H2.out HU.out).mono ?_; rintro e w6 ⟨v0, v1, ok0, ok1, n, m, i', h', rfl, h_, hn, hm, hrr, _⟩; obtain ⟨A0, c0, e0⟩ := Kd.R_slice (show Kd.R (Kd.int .i64) 3 w6 w.heap.size ok0 v0 n from h_.get 1 rfl); subst e0; obtain ⟨A1, c1, e1⟩ := Kd.R_slice (Kd.S_R (show Kd.S (Kd.slice 3 (Kd.int .i64)) 24 w6 w.heap.size ok1 v1 m from h_.get 2 rfl)); subst e1; have H3 := Aside0.mk h_; have HN := Aside0.mk hn; have HM := Aside0.mk hm; have HRR := Aside0.mk hrr; clear h_ hn hm hrr; have y0 : w6.cell? ⟨b4, 0, none⟩ = some (.slice none 0 0) := St.cellB H3.out 3 rfl 0 rfl; have y1 : w6.cell? ⟨b4, 1, none⟩ = some (.slice none 0 0) := St.cellB H3.out 3 rfl 1 rfl; have y2 := blk_frozen (St.heapB H3.out 3 rfl) 0; have y3 := blk_frozen (St.heapB H3.out 3 rfl) 1))
  have H9 := St.putB (St.putB H3.out 3 rfl 0 (.slice A0 n.length c0) rfl) 3 rfl 1 (.slice A1 m.length c1) rfl
  refine bodyPost_ret (results_cell_row rfl _ _ b4 29 #[.slice A0 n.length c0, .slice A1 m.length c1] (0, 0) _ rfl (St.heapB H9 3 rfl) Tryz.underlying29 rfl (by kernel_rfl)) rfl ?_
  obtain ⟨hR, hS, hB⟩ := St.giveRS H9 1 2 (by decide) rfl rfl
  unfold DrawnPost
  exact ⟨_, _, n, m, rfl, hR, hS, hB, HN.out, HM.out, HRR.out⟩
end Go.Proofs.YtpandocpclecgaaGreatDoor.Q
