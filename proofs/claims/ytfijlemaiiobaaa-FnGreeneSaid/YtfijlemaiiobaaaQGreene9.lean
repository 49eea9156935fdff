/- The pure laws of one claim's functions: for each, what it returns; conditions: those that each theorem names. -/
import Derived.Test.YtfijlemaiiobaaaF0
import Derived.Test.YtfijlemaiiobaaaF1
import Derived.Test.YtfijlemaiiobaaaF2
import Derived.Test.YtfijlemaiiobaaaF5
import Derived.Test.YtfijlemaiiobaaaF8
import Derived.Test.YtfijlemaiiobaaaF4
import Derived.Test.YtfijlemaiiobaaaF6
import Derived.Test.YtfijlemaiiobaaaF7
import Derived.Test.YtfijlemaiiobaaaF9
import Derived.Lib.RabinKarpLaws
set_option linter.unusedVariables false
set_option linter.unusedSimpArgs false
namespace Go.Proofs.Ytfijlemaiiobaaa.Q
open Go.RowKit Go.Proofs.Ytfijlemaiiobaaa.F Go.Proofs.YtfijlemaiiobaaaW.PrintWords Go.Proofs.YtfijlemaiiobaaaW.PrintLast Go.Proofs.YtfijlemaiiobaaaW.PrintMore
/-! ### Base -/
section
variable {α β : Type} {r : α}
theorem ev_pos {c : Prop} [Decidable c] {A B : Nat → Option α} (h : c) (hA : Ev A r) : Ev (fun k => if c then A k else B k) r := by
  simp only [if_pos h]; exact hA
theorem ev_neg {c : Prop} [Decidable c] {A B : Nat → Option α} (h : ¬ c) (hB : Ev B r) : Ev (fun k => if c then A k else B k) r := by
  simp only [if_neg h]; exact hB
theorem ev_ite {c : Prop} [Decidable c] {A B : Nat → Option α} (hA : c → Ev A r) (hB : ¬ c → Ev B r) : Ev (fun k => if c then A k else B k) r := by
  by_cases h : c
  · exact ev_pos h (hA h)
  · exact ev_neg h (hB h)
theorem ev_bindc {o : Option β} {b : β} {f : Nat → β → Option α} (h : o = some b) (hf : Ev (fun k => f k b) r) : Ev (fun k => o.bind (f k)) r := by
  subst h; exact hf
theorem ev_val {a : α} (h : a = r) : Ev (fun _ => some a) r := by subst h; exact ⟨0, fun _ _ => rfl⟩
theorem ev_eq {g : Nat → Option α} {a : α} (h : Ev g a) (e : a = r) : Ev g r := e ▸ h
theorem ev_unique {g : Nat → Option α} {a b : α} (h : Ev g a) (h' : Ev g b) : a = b := by
  obtain ⟨K, h⟩ := h
  obtain ⟨K', h'⟩ := h'
  have e := (h (max K K') (by omega)).symm.trans (h' (max K K') (by omega))
  exact Option.some.inj e
end
theorem wrap_nat {n : Nat} (h : n ≤ 9223372036854775807) : wrap64 (n : Int) = n := by unfold wrap64; omega
theorem wrap_succ {n : Nat} (h : n < 9223372036854775807) : wrap64 ((n : Int) + 1) = ((n + 1 : Nat) : Int) := by unfold wrap64; omega
theorem wrap_id {i : Int} (h0 : -9223372036854775808 ≤ i) (h : i ≤ 9223372036854775807) : wrap64 i = i := by unfold wrap64; omega
theorem rd_nat (l : List Int) (i : Nat) : rd l (i : Int) = l.getD i 0 := by unfold rd; simp
theorem rd_eq (l : List Int) (i : Nat) (h : i < l.length) : rd l (i : Int) = l[i] := by rw [rd_nat]; simp [h]
theorem drop_rd (l : List Int) (i : Nat) (h : i < l.length) : l.drop i = rd l (i : Int) :: l.drop (i + 1) := by
  rw [rd_eq l i h]; exact List.drop_eq_getElem_cons h
theorem take_rd (l : List Int) (i : Nat) (h : i < l.length) : l.take (i + 1) = l.take i ++ [rd l (i : Int)] := by
  rw [rd_eq l i h]; exact List.take_succ_eq_append_getElem h
theorem rd_mem (l : List Int) (i : Nat) (h : i < l.length) : rd l (i : Int) ∈ l := by rw [rd_eq l i h]; exact List.getElem_mem h
/-- Downward: what holds at n, and is handed down, holds at each i up to n. -/
theorem downTo {P : Nat → Prop} (n : Nat) (h0 : P n) (hs : ∀ i, i < n → P (i + 1) → P i) : ∀ i, i ≤ n → P i := by
  intro i hi
  obtain ⟨d, rfl⟩ : ∃ d, n = i + d := ⟨n - i, by omega⟩
  clear hi
  induction d generalizing i with
  | zero => simpa using h0
  | succ d ih => exact hs i (by omega) (ih (i + 1) (by rwa [show i + 1 + d = i + (d + 1) by omega]) (fun j hj => hs j (by omega)))
theorem rd_set (l : List Int) (i j : Nat) (v : Int) (h : i < l.length) : rd (l.set i v) (j : Int) = if i = j then v else rd l (j : Int) := by
  rw [rd_nat, rd_nat, List.getD_eq_getElem?_getD, List.getElem?_set]
  by_cases e : i = j
  · subst e; rw [if_pos rfl, if_pos h, if_pos rfl]; rfl
  · rw [if_neg e, if_neg e, List.getD_eq_getElem?_getD]
theorem rd_reverse (l : List Int) (i : Nat) (h : i < l.length) : rd l.reverse (i : Int) = rd l ((l.length - 1 - i : Nat) : Int) := by
  rw [rd_eq _ i (by simpa using h), rd_eq _ (l.length - 1 - i) (by omega)]
  simp [List.getElem_reverse]
/-! ### Draw -/
theorem and_255 (E : Int) : 0 ≤ Go.bits .and .i64 E 255 ∧ Go.bits .and .i64 E 255 ≤ 255 := by
  have h : (BitVec.ofInt IntKind.i64.bits E &&& BitVec.ofInt IntKind.i64.bits 255).toNat ≤ 255 := by
    rw [BitVec.toNat_and]
    exact Nat.and_le_right
  simp only [Go.bits]
  rw [IntKind.wrap_i64]
  omega
/-- where the cursor stands -/
def Cur (b : List Int) (i : Int) : Prop := b.length ≤ 1048576 ∧ 0 ≤ i ∧ i ≤ (b.length : Int)
theorem byte_ok {b : List Int} {i : Int} (h : Int) (hc : Cur b i) : ∃ x i' h', spec_l1Byte.f b i h = some (x, i', h') ∧ 0 ≤ x ∧ x ≤ 255 ∧ Cur b i' := by
  obtain ⟨h1, h2, h3⟩ := hc
  unfold spec_l1Byte.f
  by_cases hi : i < (b.length : Int)
  · rw [if_pos hi, if_pos h2]
    refine ⟨_, _, _, rfl, (and_255 _).1, (and_255 _).2, h1, ?_, ?_⟩ <;> rw [wrap_id (by omega) (by omega)] <;> omega
  · rw [if_neg hi]
    exact ⟨_, _, _, rfl, (and_255 _).1, (and_255 _).2, h1, h2, h3⟩
theorem below_ok {b : List Int} {i : Int} (h n : Int) (hc : Cur b i) (hn : n ≤ 256) : ∃ x i' h', spec_l1Below.f b i h n = some (x, i', h') ∧ 0 ≤ x ∧ (n ≤ 0 → x = 0) ∧ (0 < n → x < n) ∧ Cur b i' := by
  unfold spec_l1Below.f
  by_cases h0 : n ≤ 0
  · rw [if_pos h0]
    exact ⟨_, _, _, rfl, by omega, fun _ => rfl, fun h => by omega, hc⟩
  · obtain ⟨x, i', h', e, x0, x1, hc'⟩ := byte_ok h hc
    rw [if_neg h0, if_pos hn, e]
    simp only [Option.bind_some]
    rw [if_neg (by omega)]
    exact ⟨_, _, _, rfl, Int.tmod_nonneg n x0, fun h => by omega, fun h => Int.tmod_lt_of_pos x h, hc'⟩
theorem pick_ok {b : List Int} {i : Int} (h : Int) (list : List Int) (hc : Cur b i) (hl : 0 < list.length) (hl2 : list.length ≤ 256) : ∃ x i' h', spec_l1PickInt.f b i h list = some (x, i', h') ∧ x ∈ list ∧ Cur b i' := by
  obtain ⟨x, i', h', e, x0, _, x1, hc'⟩ := below_ok h (list.length : Int) hc (by omega)
  have := x1 (by omega)
  unfold spec_l1PickInt.f
  rw [e]
  simp only [Option.bind_some]
  rw [if_pos x0, if_pos this]
  obtain ⟨j, rfl⟩ : ∃ j : Nat, x = (j : Int) := ⟨x.toNat, by omega⟩
  exact ⟨_, _, _, rfl, rd_mem list j (by omega), hc'⟩
theorem once_ok {b : List Int} {i : Int} (h n : Int) (hc : Cur b i) (hn : n ≤ 256) : ∃ x i' h', spec_l1Once.f b i h n = some (x, i', h') ∧ Cur b i' := by
  obtain ⟨x, i', h', e, _, _, _, hc'⟩ := below_ok h n hc hn
  unfold spec_l1Once.f
  rw [e]
  exact ⟨_, _, _, rfl, hc'⟩
theorem new_ok (b : List Int) (hb : b.length ≤ 1048576) : ∃ h, Ev (fun k => spec_l1New.f k b) (b, 0, h) := by
  have key : ∀ i, i ≤ b.length → ∀ h : Int, ∃ h', Ev (fun k => spec_l1New.l0 k b h (i : Int)) (b, 0, h') := by
    refine downTo b.length ?_ ?_
    · intro h
      exact ⟨h, Ev.step (fun k => by rw [spec_l1New.l0]) (ev_neg (by omega) (ev_val rfl))⟩
    · intro i hi ih h
      by_cases h4 : (i : Int) < 4000
      · obtain ⟨h', e⟩ := ih (Go.bits .and .i64 (wrap64 ((wrap64 ((wrap64 (h * 131)) + (wrap64 (rd b (i : Int))))) + 7)) 1073741823)
        refine ⟨h', Ev.step (fun k => by rw [spec_l1New.l0]) (ev_pos (by omega) (ev_pos h4 (ev_pos (by omega) ?_)))⟩
        rw [wrap_succ (by omega)]
        exact e
      · exact ⟨h, Ev.step (fun k => by rw [spec_l1New.l0]) (ev_pos (by omega) (ev_neg h4 (ev_val rfl)))⟩
  obtain ⟨h, e⟩ := key 0 (by omega) (wrap64 (26583 + (b.length : Int)))
  exact ⟨h, by unfold spec_l1New.f; exact e⟩
theorem cur_start {b : List Int} (hb : b.length ≤ 1048576) : Cur b 0 := ⟨hb, by omega, by omega⟩
/-! ### Once -/
/-- how often the numbers 1 to n occur -/
def sumCount (l : List Int) : Nat → Nat
  | 0 => 0
  | n + 1 => sumCount l n + l.countP (fun x => decide (x = ((n + 1 : Nat) : Int)))
theorem countP_split (l : List Int) (p q r : Int → Bool) (h : ∀ x ∈ l, (if r x then 1 else 0) = (if p x then 1 else 0) + (if q x then (1 : Nat) else 0)) : l.countP r = l.countP p + l.countP q := by
  induction l with
  | nil => rfl
  | cons x l ih =>
    have h1 := h x (by simp)
    have h2 := ih (fun y hy => h y (by simp [hy]))
    simp only [List.countP_cons]
    omega
theorem sumCount_eq (l : List Int) (n : Nat) : sumCount l n = l.countP (fun x => decide (1 ≤ x ∧ x ≤ (n : Int))) := by
  induction n with
  | zero =>
    rw [sumCount]; symm
    rw [List.countP_eq_zero]
    intro x _; simp; omega
  | succ n ih =>
    rw [sumCount, ih]; symm
    apply countP_split
    intro x _
    by_cases h1 : 1 ≤ x ∧ x ≤ (n : Int)
    · have : ¬ x = ((n + 1 : Nat) : Int) := by omega
      have h3 : 1 ≤ x ∧ x ≤ ((n + 1 : Nat) : Int) := by omega
      simp only [decide_eq_true h1, decide_eq_true h3, decide_eq_false this]; rfl
    · by_cases h2 : x = ((n + 1 : Nat) : Int)
      · have h3 : 1 ≤ x ∧ x ≤ ((n + 1 : Nat) : Int) := by omega
        simp only [decide_eq_false h1, decide_eq_true h3, decide_eq_true h2]; rfl
      · have h3 : ¬ (1 ≤ x ∧ x ≤ ((n + 1 : Nat) : Int)) := by omega
        simp only [decide_eq_false h1, decide_eq_false h3, decide_eq_false h2]; rfl
theorem countP_pos_of_mem {l : List Int} {v : Int} (h : v ∈ l) : 1 ≤ l.countP (fun x => decide (x = v)) := by
  have : 0 < l.countP (fun x => decide (x = v)) := List.countP_pos_iff.2 ⟨v, h, by simp⟩
  omega
theorem mem_of_countP {l : List Int} {v : Int} (h : 1 ≤ l.countP (fun x => decide (x = v))) : v ∈ l := by
  obtain ⟨x, hx, he⟩ := List.countP_pos_iff.1 (show 0 < l.countP (fun x => decide (x = v)) by omega)
  rw [decide_eq_true_eq] at he
  exact he ▸ hx
theorem nodup_count {l : List Int} (h : l.Nodup) (v : Int) : l.countP (fun x => decide (x = v)) ≤ 1 := by
  have := List.nodup_iff_count.1 h v
  rw [List.count] at this
  refine Nat.le_trans (Nat.le_of_eq ?_) this
  apply List.countP_congr
  intro x _; simp
theorem nodup_of_count {l : List Int} (h : ∀ v, l.countP (fun x => decide (x = v)) ≤ 1) : l.Nodup := by
  rw [List.nodup_iff_count]
  intro v
  rw [List.count]
  refine Nat.le_trans (Nat.le_of_eq ?_) (h v)
  apply List.countP_congr
  intro x _; simp
theorem sumCount_ge {l : List Int} (n : Nat) (h : ∀ v : Nat, 1 ≤ v → v ≤ n → (v : Int) ∈ l) : n ≤ sumCount l n := by
  induction n with
  | zero => omega
  | succ n ih =>
    have h1 := ih (fun v a b => h v a (by omega))
    have h2 := countP_pos_of_mem (h (n + 1) (by omega) (by omega))
    rw [sumCount]; omega
theorem sumCount_le {l : List Int} (hd : l.Nodup) (n : Nat) : sumCount l n ≤ n := by
  induction n with
  | zero => simp [sumCount]
  | succ n ih =>
    have := nodup_count hd ((n + 1 : Nat) : Int)
    rw [sumCount]; omega
theorem sumCount_tight {l : List Int} (n : Nat) (hle : sumCount l n ≤ n) (h : ∀ v : Nat, 1 ≤ v → v ≤ n → (v : Int) ∈ l) : ∀ v : Nat, 1 ≤ v → v ≤ n → l.countP (fun x => decide (x = (v : Int))) = 1 := by
  induction n with
  | zero => intro v a b; omega
  | succ n ih =>
    have h1 := sumCount_ge n (fun v a b => h v a (by omega))
    have h2 := countP_pos_of_mem (h (n + 1) (by omega) (by omega))
    rw [sumCount] at hle
    intro v a b
    by_cases e : v = n + 1
    · subst e; omega
    · exact ih (by omega) (fun v a b => h v a (by omega)) v a (by omega)
theorem sumCount_full {l : List Int} (hd : l.Nodup) (n : Nat) (hge : n ≤ sumCount l n) : ∀ v : Nat, 1 ≤ v → v ≤ n → (v : Int) ∈ l := by
  induction n with
  | zero => intro v a b; omega
  | succ n ih =>
    have h1 := sumCount_le hd n
    have h2 := nodup_count hd ((n + 1 : Nat) : Int)
    rw [sumCount] at hge
    intro v a b
    by_cases e : v = n + 1
    · subst e; exact mem_of_countP (by omega)
    · exact ih (by omega) v a (by omega)
/-- Each number from 1 to the length occurs: just where none occurs twice and none is greater. -/
theorem once_iff {l : List Int} (hp : ∀ x ∈ l, 1 ≤ x) : (∀ v : Nat, 1 ≤ v → v ≤ l.length → (v : Int) ∈ l) ↔ (l.Nodup ∧ ∀ x ∈ l, x ≤ (l.length : Int)) := by
  constructor
  · intro h
    have h1 := sumCount_ge l.length h
    have h2 : sumCount l l.length ≤ l.length := by rw [sumCount_eq]; exact List.countP_le_length
    have h3 : l.countP (fun x => decide (1 ≤ x ∧ x ≤ (l.length : Int))) = l.length := by rw [← sumCount_eq]; omega
    have h4 : ∀ x ∈ l, x ≤ (l.length : Int) := by
      intro x hx
      have := List.countP_eq_length.1 h3 x hx
      simp at this; exact this.2
    refine ⟨nodup_of_count (fun v => ?_), h4⟩
    by_cases hv : v ∈ l
    · have a := hp v hv
      have b := h4 v hv
      obtain ⟨m, rfl⟩ : ∃ m : Nat, v = (m : Int) := ⟨v.toNat, by omega⟩
      exact Nat.le_of_eq (sumCount_tight l.length h2 h m (by omega) (by omega))
    · rw [Nat.le_one_iff_eq_zero_or_eq_one]; left
      rw [List.countP_eq_zero]
      intro x hx he
      rw [decide_eq_true_eq] at he
      exact hv (he ▸ hx)
  · rintro ⟨hd, hle⟩
    refine sumCount_full hd l.length ?_
    rw [sumCount_eq, List.countP_eq_length.2]
    · exact Nat.le_refl _
    · intro x hx; rw [decide_eq_true_eq]; exact ⟨hp x hx, hle x hx⟩
/-- how many of the first j indices stand ahead of index i: by a smaller number, or by an equal one at a smaller index -/
def placeTo (l : List Int) (i : Nat) : Nat → Nat
  | 0 => 0
  | j + 1 => placeTo l i j + (if rd l (j : Int) < rd l (i : Int) ∨ (rd l (j : Int) = rd l (i : Int) ∧ j < i) then 1 else 0)
def placeOf (l : List Int) (i : Nat) : Int := ((1 + placeTo l i l.length : Nat) : Int)
/-- the places of a list's numbers -/
def places (l : List Int) : List Int := (List.range l.length).map (placeOf l)
theorem placeTo_le (l : List Int) (i : Nat) : ∀ j, placeTo l i j + (if i < j then 1 else 0) ≤ j := by
  intro j
  induction j with
  | zero => simp [placeTo]
  | succ j ih =>
    rw [placeTo]
    by_cases e : j = i
    · subst e
      have : ¬ (rd l (j : Int) < rd l (j : Int) ∨ (rd l (j : Int) = rd l (j : Int) ∧ j < j)) := by omega
      rw [if_neg this]
      rw [if_neg (by omega)] at ih
      rw [if_pos (by omega)]; omega
    · by_cases h2 : i < j
      · rw [if_pos h2] at ih
        rw [if_pos (show i < j + 1 by omega)]
        split <;> omega
      · rw [if_neg h2] at ih
        rw [if_neg (show ¬ i < j + 1 by omega)]
        split <;> omega
theorem placeTo_lt {l : List Int} {i i' : Nat} (h : rd l (i : Int) < rd l (i' : Int) ∨ (rd l (i : Int) = rd l (i' : Int) ∧ i < i')) : ∀ j, placeTo l i j + (if i < j then 1 else 0) ≤ placeTo l i' j := by
  intro j
  induction j with
  | zero => simp [placeTo]
  | succ j ih =>
    rw [placeTo, placeTo]
    by_cases e : j = i
    · subst e
      have : ¬ (rd l (j : Int) < rd l (j : Int) ∨ (rd l (j : Int) = rd l (j : Int) ∧ j < j)) := by omega
      rw [if_neg this, if_pos h]
      rw [if_neg (by omega)] at ih
      rw [if_pos (by omega)]; omega
    · have hs : (if i < j + 1 then 1 else 0) = (if i < j then 1 else 0) := by
        by_cases h2 : i < j
        · rw [if_pos h2, if_pos (by omega)]
        · rw [if_neg h2, if_neg (by omega)]
      rw [hs]
      generalize (if i < j then 1 else 0) = q at ih ⊢
      by_cases hc : rd l (j : Int) < rd l (i : Int) ∨ (rd l (j : Int) = rd l (i : Int) ∧ j < i)
      · have hc' : rd l (j : Int) < rd l (i' : Int) ∨ (rd l (j : Int) = rd l (i' : Int) ∧ j < i') := by omega
        rw [if_pos hc, if_pos hc']; omega
      · rw [if_neg hc]; split <;> omega
theorem places_length (l : List Int) : (places l).length = l.length := by simp [places]
theorem places_get (l : List Int) (i : Nat) (h : i < l.length) : rd (places l) (i : Int) = placeOf l i := by
  rw [rd_eq _ i (by rw [places_length]; exact h)]
  simp [places]
theorem placeOf_bd (l : List Int) (i : Nat) (h : i < l.length) : 1 ≤ placeOf l i ∧ placeOf l i ≤ (l.length : Int) := by
  have := placeTo_le l i l.length
  rw [if_pos h] at this
  unfold placeOf; omega
theorem mem_rd {l : List Int} {x : Int} (h : x ∈ l) : ∃ i, i < l.length ∧ rd l (i : Int) = x := by
  obtain ⟨i, hi, he⟩ := List.getElem_of_mem h
  exact ⟨i, hi, by rw [rd_eq l i hi]; exact he⟩
theorem ext_rd {a b : List Int} (hl : a.length = b.length) (h : ∀ i, i < a.length → rd a (i : Int) = rd b (i : Int)) : a = b := by
  apply List.ext_getElem hl
  intro i h1 h2
  rw [← rd_eq a i h1, ← rd_eq b i h2]
  exact h i h1
theorem nodup_rd {l : List Int} (h : ∀ i j, i < j → j < l.length → rd l (i : Int) ≠ rd l (j : Int)) : l.Nodup := by
  rw [List.nodup_iff_pairwise_ne, List.pairwise_iff_getElem]
  intro i j hi hj hij
  rw [← rd_eq l i hi, ← rd_eq l j hj]
  exact h i j hij hj
theorem rd_nodup {l : List Int} (h : l.Nodup) (i j : Nat) (hij : i < j) (hj : j < l.length) : rd l (i : Int) ≠ rd l (j : Int) := by
  rw [List.nodup_iff_pairwise_ne, List.pairwise_iff_getElem] at h
  rw [rd_eq l i (by omega), rd_eq l j hj]
  exact h i j (by omega) hj hij
theorem placeTo_nodup {l : List Int} (hd : l.Nodup) (i : Nat) (hi : i < l.length) : ∀ j, j ≤ l.length → placeTo l i j = (l.take j).countP (fun x => decide (x < rd l (i : Int))) := by
  intro j
  induction j with
  | zero => intro _; simp [placeTo]
  | succ j ih =>
    intro hj
    rw [placeTo, ih (by omega), take_rd l j (by omega), List.countP_append]
    congr 1
    by_cases hc : rd l (j : Int) < rd l (i : Int)
    · rw [if_pos (.inl hc)]; simp [hc]
    · rw [if_neg]
      · simp [hc]
      · rintro (h | ⟨h, hlt⟩)
        · exact hc h
        · exact rd_nodup hd j i hlt hi h
/-- A list whose numbers are 1 and more is the list of its places just where each number from 1 to its length occurs. -/
theorem places_iff {l : List Int} (hp : ∀ x ∈ l, 1 ≤ x) : places l = l ↔ ∀ v : Nat, 1 ≤ v → v ≤ l.length → (v : Int) ∈ l := by
  rw [once_iff hp]
  constructor
  · intro h
    have hg : ∀ i, i < l.length → rd l (i : Int) = placeOf l i := fun i hi => by rw [← places_get l i hi, h]
    refine ⟨nodup_rd (fun i j hij hj he => ?_), fun x hx => ?_⟩
    · have := placeTo_lt (l := l) (i := i) (i' := j) (.inr ⟨he, hij⟩) l.length
      rw [if_pos (by omega)] at this
      rw [hg i (by omega), hg j hj] at he
      unfold placeOf at he; omega
    · obtain ⟨i, hi, rfl⟩ := mem_rd hx
      rw [hg i hi]
      exact (placeOf_bd l i hi).2
  · rintro ⟨hd, hle⟩
    have hall := (once_iff hp).2 ⟨hd, hle⟩
    refine ext_rd (places_length l) (fun i hi => ?_)
    rw [places_length] at hi
    rw [places_get l i hi]
    have hm := rd_mem l i hi
    have h1 := hp _ hm
    have h2 := hle _ hm
    unfold placeOf
    rw [placeTo_nodup hd i hi l.length (Nat.le_refl _), List.take_length]
    obtain ⟨v, hv⟩ : ∃ v : Nat, rd l (i : Int) = ((v + 1 : Nat) : Int) := ⟨(rd l (i : Int) - 1).toNat, by omega⟩
    rw [hv]
    have e : l.countP (fun x => decide (x < ((v + 1 : Nat) : Int))) = sumCount l v := by
      rw [sumCount_eq]
      apply List.countP_congr
      intro x hx
      have := hp x hx
      simp; omega
    have h3 : sumCount l v = v := by
      have a := sumCount_le hd v
      have b := sumCount_ge (l := l) v (fun u a b => hall u a (by omega))
      omega
    rw [e, h3]; omega
/-! ### IsIn -/
theorem spec_l1In_eq (a b c : Int) : spec_l1In.f a b c = some (decide (b ≤ a ∧ a ≤ c)) := by
  unfold spec_l1In.f
  by_cases h : b ≤ a
  · rw [if_pos h]; simp [h]
  · rw [if_neg h]; simp [h]
/-! ### IsWord -/
def isWord (l : List Int) : Bool := decide (l.length ≤ 9) && l.all (fun x => decide (1 ≤ x ∧ x ≤ 9))
theorem isWord_iff {l : List Int} : isWord l = true ↔ l.length ≤ 9 ∧ ∀ x ∈ l, 1 ≤ x ∧ x ≤ 9 := by simp [isWord]
theorem impl_IsWord_eq (l : List Int) : impl_IsWord.f l = some (isWord l) := by
  unfold impl_IsWord.f isWord
  congr 2
  rw [List.any_eq_not_all_not]
  simp
theorem spec_IsWord_l0 (l : List Int) (hl : l.length ≤ 1048576) : ∀ (d i : Nat), i + d = l.length → Ev (fun k => spec_IsWord.l0 k l (i : Int)) ((l.drop i).all (fun x => decide (1 ≤ x ∧ x ≤ 9)) && decide (l.length ≤ 9)) := by
  intro d
  induction d with
  | zero =>
    intro i h
    refine Ev.step (fun k => by rw [spec_IsWord.l0]) ?_
    refine ev_neg (by omega) (ev_val ?_)
    rw [List.drop_of_length_le (by omega)]
    simp; omega
  | succ d ih =>
    intro i h
    refine Ev.step (fun k => by rw [spec_IsWord.l0]) ?_
    refine ev_pos (by omega) (ev_pos (by omega) (ev_bindc (spec_l1In_eq _ _ _) (ev_ite (fun he => ?_) (fun he => ev_val ?_))))
    · rw [wrap_succ (by omega)]
      refine ev_eq (ih (i + 1) (by omega)) ?_
      rw [drop_rd l i (by omega), List.all_cons, he, Bool.true_and]
    · rw [drop_rd l i (by omega), List.all_cons]
      simp only [Bool.not_eq_true] at he
      rw [he]; rfl
theorem spec_IsWord_ev (l : List Int) (hl : l.length ≤ 1048576) : Ev (fun k => spec_IsWord.f k l) (isWord l) := by
  unfold spec_IsWord.f
  refine ev_eq (spec_IsWord_l0 l hl l.length 0 (by omega)) ?_
  rw [List.drop_zero, isWord, Bool.and_comm]
/-! ### Bit -/
theorem l1Bit_dec (c : Prop) [Decidable c] : spec_l1Bit.f (decide c) = some (if c then 1 else 0) := by
  by_cases h : c
  · rw [decide_eq_true h, if_pos h]; rfl
  · rw [decide_eq_false h, if_neg h]; rfl
/-! ### Standardize -/
def standardize (l : List Int) : List Int := if isWord l then places l else []
theorem standardize_le (l : List Int) : (standardize l).length ≤ 9 := by
  unfold standardize
  split
  · rename_i h; rw [places_length]; exact (isWord_iff.1 h).1
  · simp
theorem range_snoc (l : List Int) (i : Nat) : (List.range (i + 1)).map (placeOf l) = (List.range i).map (placeOf l) ++ [placeOf l i] := by simp [List.range_succ]
theorem placeTo_le' (l : List Int) (i j : Nat) : placeTo l i j ≤ j := by have := placeTo_le l i j; omega
theorem spec_Stand_l1 (l : List Int) (hl : l.length ≤ 9) (acc : List Int) (ha : acc.length ≤ 9) (i : Nat) (hi : i < l.length) (r : List Int)
    (hr : Ev (fun k => spec_StandardizeWord.l0 k l (acc ++ [placeOf l i]) ((i + 1 : Nat) : Int)) r) :
    Ev (fun k => spec_StandardizeWord.l1 k l acc (i : Int) 1 0) r := by
  refine downTo (P := fun j => Ev (fun k => spec_StandardizeWord.l1 k l acc (i : Int) ((1 + placeTo l i j : Nat) : Int) (j : Int)) r) l.length ?_ ?_ 0 (by omega)
  · refine Ev.step (fun k => by rw [spec_StandardizeWord.l1]) ?_
    refine ev_neg (by omega) (ev_pos (by omega) ?_)
    rw [wrap_succ (by omega)]
    exact hr
  · intro j hj ih
    have hle := placeTo_le' l i j
    rw [placeTo] at ih
    refine Ev.step (fun k => by rw [spec_StandardizeWord.l1]) ?_
    refine ev_pos (by omega) (ev_pos (by omega) (ev_pos (by omega) (ev_pos (by omega) (ev_ite (fun h1 => ?_) (fun h1 => ev_ite (fun h2 => ?_) (fun h2 => ?_))))))
    · refine ev_bindc (b := 1) rfl ?_
      rw [if_pos (.inl h1)] at ih
      rw [wrap_succ (by omega), wrap_succ (by omega)]
      exact ih
    · refine ev_bindc (l1Bit_dec _) ?_
      by_cases h3 : j < i
      · rw [if_pos (.inr ⟨h2, h3⟩)] at ih
        rw [if_pos (by omega), wrap_succ (by omega), wrap_succ (by omega)]
        exact ih
      · rw [if_neg (by omega)] at ih
        rw [if_neg (by omega), Int.add_zero, wrap_nat (by omega), wrap_succ (by omega)]
        exact ih
    · refine ev_bindc (b := 0) rfl ?_
      rw [if_neg (by omega)] at ih
      rw [Int.add_zero, wrap_nat (by omega), wrap_succ (by omega)]
      exact ih
theorem spec_StandardizeWord_ev (l : List Int) (hl : l.length ≤ 1048576) : Ev (fun k => spec_StandardizeWord.f k l) (standardize l) := by
  unfold spec_StandardizeWord.f standardize
  by_cases hw : isWord l = true
  · rw [if_pos hw]
    have h9 := (isWord_iff.1 hw).1
    refine downTo (P := fun i => Ev (fun k => spec_StandardizeWord.l0 k l ((List.range i).map (placeOf l)) (i : Int)) (places l)) l.length ?_ ?_ 0 (by omega)
    · refine Ev.step (fun k => by rw [spec_StandardizeWord.l0]) ?_
      refine ev_neg (by omega) (Ev.step (fun k => by rw [spec_StandardizeWord.j1]) ?_)
      exact ev_neg (by simp) (ev_val rfl)
    · intro i hi ih
      refine Ev.step (fun k => by rw [spec_StandardizeWord.l0]) ?_
      refine ev_pos (by omega) (Ev.bind (spec_IsWord_ev l hl) (Ev.step (fun k => by rw [spec_StandardizeWord.j1]) ?_))
      refine ev_pos hw (spec_Stand_l1 l h9 _ (by simp; omega) i hi _ ?_)
      rw [← range_snoc]; exact ih
  · rw [if_neg hw]
    refine Ev.step (fun k => by rw [spec_StandardizeWord.l0]) ?_
    refine ev_ite (fun _ => Ev.bind (spec_IsWord_ev l hl) (Ev.step (fun k => by rw [spec_StandardizeWord.j1]) ?_)) (fun _ => Ev.step (fun k => by rw [spec_StandardizeWord.j1]) ?_)
    · exact ev_neg hw (ev_val rfl)
    · exact ev_neg (by simp) (ev_val rfl)
/-! ### DrawWord -/
theorem l8Draw_ok {b : List Int} {i : Int} (h a c : Int) (hc : Cur b i) (ha : 0 ≤ a ∧ a ≤ 200) (hcc : c ≤ 256) : ∃ w i' h', Ev (fun k => spec_l8Draw.f k b i h a c) (w, i', h') ∧ (w.length : Int) ≤ a ∧ Cur b i' := by
  obtain ⟨n, i1, h1, e, n0, _, n1, hc1⟩ := below_ok h (a + 1) hc (by omega)
  have := n1 (by omega)
  obtain ⟨m, rfl⟩ : ∃ m : Nat, n = (m : Int) := ⟨n.toNat, by omega⟩
  have key : ∀ (d j : Nat) (w : List Int) (i h : Int), j + d = m → w.length = j → Cur b i → ∃ w' i' h', Ev (fun k => spec_l8Draw.l0 k c w (m : Int) (j : Int) b i h) (w', i', h') ∧ w'.length = m ∧ Cur b i' := by
    intro d
    induction d with
    | zero =>
      intro j w i h hj hw hc
      exact ⟨w, i, h, Ev.step (fun k => by rw [spec_l8Draw.l0]) (ev_neg (by omega) (ev_val rfl)), by omega, hc⟩
    | succ d ih =>
      intro j w i h hj hw hc
      obtain ⟨x, i2, h2, e2, _, _, _, hc2⟩ := below_ok h c hc hcc
      obtain ⟨w', i', h', e3, l3, hc3⟩ := ih (j + 1) (w ++ [wrap64 (1 + x)]) i2 h2 (by omega) (by simp [hw]) hc2
      refine ⟨w', i', h', Ev.step (fun k => by rw [spec_l8Draw.l0]) (ev_pos (by omega) (ev_bindc e2 ?_)), l3, hc3⟩
      refine ev_pos (show w.length < 17592186044416 by omega) ?_
      rw [wrap_succ (by omega)]
      exact e3
  obtain ⟨w', i', h', e3, l3, hc3⟩ := key m 0 [] i1 h1 (by omega) rfl hc1
  refine ⟨w', i', h', ?_, by omega, hc3⟩
  unfold spec_l8Draw.f
  rw [wrap_id (by omega) (by omega)]
  exact ev_bindc e e3
theorem l8Word_ok {b : List Int} {i : Int} (h : Int) (hc : Cur b i) : ∃ w i' h', Ev (fun k => spec_l8Word.f k b i h) (w, i', h') ∧ w.length ≤ 9 ∧ Cur b i' := by
  obtain ⟨n, i1, h1, e1, n0, _, n1, hc1⟩ := below_ok h 4 hc (by omega)
  have := n1 (by omega)
  obtain ⟨w, i2, h2, e2, l2, hc2⟩ := l8Draw_ok h1 7 (2 + n) hc1 (by omega) (by omega)
  obtain ⟨x, i3, h3, e3, hc3⟩ := once_ok h2 3 hc2 (by omega)
  have e2' : Ev (fun k => spec_l8Draw.f k b i1 h1 7 (wrap64 (2 + n))) (w, i2, h2) := by rw [wrap_id (by omega) (by omega)]; exact e2
  cases x with
  | true => exact ⟨standardize w, i3, h3, by unfold spec_l8Word.f; exact ev_bindc e1 (Ev.bind e2' (ev_bindc e3 (ev_pos rfl (Ev.bind (spec_StandardizeWord_ev w (by omega)) (ev_val rfl))))), standardize_le w, hc3⟩
  | false => exact ⟨w, i3, h3, by unfold spec_l8Word.f; exact ev_bindc e1 (Ev.bind e2' (ev_bindc e3 (ev_neg (by simp) (ev_val rfl)))), by omega, hc3⟩
theorem l8Bent_ok {b : List Int} {i : Int} (h : Int) (hc : Cur b i) : ∃ w i' h', Ev (fun k => spec_l8Bent.f k b i h) (w, i', h') ∧ w.length ≤ 10 ∧ Cur b i' := by
  obtain ⟨w, i1, h1, e1, l1, hc1⟩ := l8Word_ok h hc
  obtain ⟨n, i2, h2, e2, _, _, _, hc2⟩ := below_ok h1 14 hc1 (by omega)
  by_cases n0 : n = 0
  · obtain ⟨x, i3, h3, e3, _, hc3⟩ := pick_ok h2 [0, 10, -1, 9] hc2 (by simp) (by simp)
    exact ⟨w ++ [x], i3, h3, by unfold spec_l8Bent.f; exact Ev.bind e1 (ev_bindc e2 (ev_pos n0 (ev_bindc e3 (ev_pos (by show w.length < _; omega) (ev_val rfl))))), by simp; omega, hc3⟩
  · by_cases n1 : n = 1
    · have key : ∀ (d : Nat) (v : List Int), v.length + d = 10 → ∃ w', Ev (fun k => spec_l8Bent.l0 k v b i2 h2) (w', i2, h2) ∧ w'.length = 10 := by
        intro d
        induction d with
        | zero => intro v hv; exact ⟨v, Ev.step (fun k => by rw [spec_l8Bent.l0]) (ev_neg (by omega) (ev_val rfl)), by omega⟩
        | succ d ih =>
          intro v hv
          obtain ⟨w', e, l⟩ := ih (v ++ [1]) (by simp; omega)
          exact ⟨w', Ev.step (fun k => by rw [spec_l8Bent.l0]) (ev_pos (by omega) (ev_pos (by omega) e)), l⟩
      obtain ⟨w', e, l⟩ := key (10 - w.length) w (by omega)
      exact ⟨w', i2, h2, by unfold spec_l8Bent.f; exact Ev.bind e1 (ev_bindc e2 (ev_neg n0 (ev_pos n1 e))), by omega, hc2⟩
    · exact ⟨w, i2, h2, by unfold spec_l8Bent.f; exact Ev.bind e1 (ev_bindc e2 (ev_neg n0 (ev_neg n1 (ev_val rfl)))), by omega, hc2⟩
/-! ### Rows -/
theorem rows_nat (l : List (List Int)) (i : Nat) : rd_L2 l (i : Int) = l.getD i [] := by unfold rd_L2; simp
theorem rows_eq (l : List (List Int)) (i : Nat) (h : i < l.length) : rd_L2 l (i : Int) = l[i] := by rw [rows_nat]; simp [h]
theorem drop_rows (l : List (List Int)) (i : Nat) (h : i < l.length) : l.drop i = rd_L2 l (i : Int) :: l.drop (i + 1) := by
  rw [rows_eq l i h]; exact List.drop_eq_getElem_cons h
theorem take_rows (l : List (List Int)) (i : Nat) (h : i < l.length) : l.take (i + 1) = l.take i ++ [rd_L2 l (i : Int)] := by
  rw [rows_eq l i h]; exact List.take_succ_eq_append_getElem h
theorem rows_mem (l : List (List Int)) (i : Nat) (h : i < l.length) : rd_L2 l (i : Int) ∈ l := by rw [rows_eq l i h]; exact List.getElem_mem h
def isum : List Int → Int
  | [] => 0
  | x :: l => x + isum l
def msum : List (List Int) → Int
  | [] => 0
  | r :: m => isum r + msum m
/-- how many numbers a list of lists holds -/
def bulk : List (List Int) → Nat
  | [] => 0
  | r :: m => r.length + bulk m
theorem isum_nonneg {l : List Int} (h : ∀ x ∈ l, 0 ≤ x) : 0 ≤ isum l := by
  induction l with
  | nil => exact Int.le_refl _
  | cons x l ih =>
    have h1 := h x (by simp)
    have h2 := ih (fun y hy => h y (by simp [hy]))
    unfold isum; omega
theorem isum_le {l : List Int} {b : Nat} (h : ∀ x ∈ l, x ≤ (b : Int)) : isum l ≤ ((b * l.length : Nat) : Int) := by
  induction l with
  | nil => simp [isum]
  | cons x l ih =>
    have h1 := h x (by simp)
    have h2 := ih (fun y hy => h y (by simp [hy]))
    unfold isum
    rw [List.length_cons, Nat.mul_add]
    omega
theorem isum_append (a b : List Int) : isum (a ++ b) = isum a + isum b := by
  induction a with
  | nil => simp [isum]
  | cons x l ih => simp [isum, ih]; omega
theorem msum_nonneg {m : List (List Int)} (h : ∀ r ∈ m, ∀ x ∈ r, 0 ≤ x) : 0 ≤ msum m := by
  induction m with
  | nil => exact Int.le_refl _
  | cons r m ih =>
    have h1 := isum_nonneg (h r (by simp))
    have h2 := ih (fun y hy => h y (by simp [hy]))
    unfold msum; omega
theorem bulk_mem {m : List (List Int)} {r : List Int} (h : r ∈ m) : r.length ≤ bulk m := by
  induction m with
  | nil => simp at h
  | cons q m ih =>
    unfold bulk
    rcases List.mem_cons.1 h with rfl | h
    · omega
    · have := ih h; omega
/-! ### Part -/
def at0 (l : List Int) (i : Int) : Int := if 0 ≤ i ∧ i < (l.length : Int) then rd l i else 0
theorem at0_nat (l : List Int) (i : Nat) (h : i < l.length) : at0 l (i : Int) = rd l (i : Int) := by unfold at0; rw [if_pos (by omega)]
theorem at0_out (l : List Int) (i : Int) (h : i < 0 ∨ (l.length : Int) ≤ i) : at0 l i = 0 := by unfold at0; rw [if_neg (by omega)]
theorem impl_within_eq (a b c : Int) : impl_within.f a b c = some (decide (b ≤ a ∧ a ≤ c)) := rfl
theorem impl_at_eq (l : List Int) (i : Int) (hl : l.length ≤ 1048576) : impl_at.f l i = some (at0 l i) := by
  unfold impl_at.f at0
  rw [wrap_id (by omega) (by omega), impl_within_eq]
  simp only [Option.bind_some]
  by_cases h : 0 ≤ i ∧ i < (l.length : Int)
  · rw [if_pos h, if_pos (by rw [decide_eq_true_eq]; omega), if_pos h.1, if_pos h.2]
  · rw [if_neg h, if_neg (by rw [decide_eq_true_eq]; omega)]
/-- the numbers go on from 'prev' without rising, each is 1 or more, with 's' they add up to at most 9 -/
def partOk (prev s : Int) : List Int → Bool
  | [] => true
  | x :: l => decide (1 ≤ x ∧ x ≤ 9) && decide (x ≤ prev) && decide (s + x ≤ 9) && partOk x (s + x) l
def isPartition (l : List Int) : Bool := partOk 9 0 l
theorem partOk_sum {l : List Int} : ∀ {prev s : Int}, s ≤ 9 → partOk prev s l = true → s + isum l ≤ 9 ∧ s + l.length ≤ 9 ∧ ∀ x ∈ l, 1 ≤ x ∧ x ≤ 9 := by
  induction l with
  | nil => intro prev s h _; simp [isum, h]
  | cons x l ih =>
    intro prev s h hp
    simp only [partOk, Bool.and_eq_true, decide_eq_true_eq] at hp
    obtain ⟨⟨⟨h1, h2⟩, h3⟩, h4⟩ := hp
    obtain ⟨g1, g2, g3⟩ := ih h3 h4
    simp only [isum, List.length_cons]
    refine ⟨by omega, by omega, fun y hy => ?_⟩
    rcases List.mem_cons.1 hy with rfl | hy
    · exact h1
    · exact g3 y hy
theorem isPartition_bd {l : List Int} (h : isPartition l = true) : isum l ≤ 9 ∧ l.length ≤ 9 ∧ ∀ x ∈ l, 1 ≤ x ∧ x ≤ 9 := by
  obtain ⟨h1, h2, h3⟩ := partOk_sum (by omega) h
  exact ⟨by omega, by omega, h3⟩
theorem bool_not_t {X : Bool} (h : true = !X) : X = false := by cases X <;> simp_all
theorem bool_not_f {X : Bool} (h : false = !X) : X = true := by cases X <;> simp_all
/-- the number ahead of index i; 9 ahead of the first -/
def before (l : List Int) (i : Nat) : Int := match i with | 0 => 9 | i + 1 => rd l (i : Int)
theorem spec_IsPartition_ev (l : List Int) (hl : l.length ≤ 1048576) : Ev (fun k => spec_IsPartition.f k l) (isPartition l) := by
  have key : ∀ i, i ≤ l.length → ∀ s : Int, 0 ≤ s → s ≤ 9 → Ev (fun k => spec_IsPartition.l0 k l s (i : Int)) (partOk (before l i) s (l.drop i)) := by
    refine downTo l.length ?_ ?_
    · intro s a b
      refine Ev.step (fun k => by rw [spec_IsPartition.l0]) ?_
      exact ev_neg (by omega) (ev_val (by rw [List.drop_length]; rfl))
    · intro i hi ih s a b
      have hstep : ∀ c : Bool, (c = !(decide (1 ≤ rd l (i : Int) ∧ rd l (i : Int) ≤ 9) && decide (rd l (i : Int) ≤ before l i))) → Ev (fun k => spec_IsPartition.j1 k l s (i : Int) c) (partOk (before l i) s (l.drop i)) := by
        intro c hc
        refine Ev.step (fun k => by rw [spec_IsPartition.j1]) ?_
        rw [drop_rd l i hi]
        simp only [partOk]
        cases c with
        | true =>
          refine ev_pos rfl (ev_val ?_)
          have : (decide (1 ≤ rd l (i : Int) ∧ rd l (i : Int) ≤ 9) && decide (rd l (i : Int) ≤ before l i)) = false := bool_not_t hc
          rw [this]; rfl
        | false =>
          have hg : (decide (1 ≤ rd l (i : Int) ∧ rd l (i : Int) ≤ 9) && decide (rd l (i : Int) ≤ before l i)) = true := bool_not_f hc
          have h1 : 1 ≤ rd l (i : Int) ∧ rd l (i : Int) ≤ 9 := by simp only [Bool.and_eq_true, decide_eq_true_eq] at hg; exact hg.1
          rw [hg, Bool.true_and, wrap_id (i := s + rd l (i : Int)) (by omega) (by omega)]
          refine ev_neg (by simp) (ev_pos (by omega) (ev_pos (by omega) (ev_ite (fun h => ev_val ?_) (fun h => ?_))))
          · rw [decide_eq_false (by omega)]; rfl
          · rw [wrap_succ (by omega), decide_eq_true (by omega), Bool.true_and]
            exact ih _ (by omega) (by omega)
      refine Ev.step (fun k => by rw [spec_IsPartition.l0]) ?_
      refine ev_pos (by omega) (ev_pos (by omega) (ev_bindc (spec_l1In_eq _ _ _) (ev_ite (fun h => ?_) (fun h => ?_))))
      · cases i with
        | zero =>
          refine ev_neg (by omega) (hstep false ?_)
          rw [decide_eq_true_eq] at h
          have h' : rd l ((0 : Nat) : Int) ≤ before l 0 := by show _ ≤ (9 : Int); omega
          rw [decide_eq_true h, decide_eq_true h']; rfl
        | succ i =>
          have e : wrap64 (((i + 1 : Nat) : Int) - 1) = (i : Int) := by unfold wrap64; omega
          rw [e]
          refine ev_pos (by omega) (ev_pos (by omega) (ev_pos (by omega) (hstep _ ?_)))
          rw [h, Bool.true_and]
          show decide (rd l ((i + 1 : Nat) : Int) > rd l (i : Int)) = !decide (rd l ((i + 1 : Nat) : Int) ≤ rd l (i : Int))
          by_cases g : rd l ((i + 1 : Nat) : Int) ≤ rd l (i : Int)
          · rw [decide_eq_true g, decide_eq_false (by omega)]; rfl
          · rw [decide_eq_false g, decide_eq_true (by omega)]; rfl
      · refine hstep true ?_
        simp only [Bool.not_eq_true] at h
        rw [h]; rfl
  unfold spec_IsPartition.f isPartition
  have := key 0 (by omega) 0 (by omega) (by omega)
  rw [List.drop_zero] at this
  exact this
theorem impl_IsPartition_ev (l : List Int) (hl : l.length ≤ 1048576) : Ev (fun k => impl_IsPartition.f k l) (isPartition l) := by
  have key : ∀ i, i ≤ l.length → ∀ s : Int, 0 ≤ s → s ≤ 9 → Ev (fun k => impl_IsPartition.l0 k l s l (l.length : Int) (i : Int)) (partOk (before l i) s (l.drop i)) := by
    refine downTo l.length ?_ ?_
    · intro s a b
      refine Ev.step (fun k => by rw [impl_IsPartition.l0]) ?_
      exact ev_neg (by omega) (ev_val (by rw [List.drop_length]; rfl))
    · intro i hi ih s a b
      have hstep : ∀ c : Bool, (c = !(decide (1 ≤ rd l (i : Int) ∧ rd l (i : Int) ≤ 9) && decide (rd l (i : Int) ≤ before l i))) → Ev (fun k => impl_IsPartition.j1 k l s (rd l (i : Int)) l (l.length : Int) (i : Int) c) (partOk (before l i) s (l.drop i)) := by
        intro c hc
        refine Ev.step (fun k => by rw [impl_IsPartition.j1]) ?_
        rw [drop_rd l i hi]
        simp only [partOk]
        cases c with
        | true =>
          refine ev_pos rfl (ev_val ?_)
          have : (decide (1 ≤ rd l (i : Int) ∧ rd l (i : Int) ≤ 9) && decide (rd l (i : Int) ≤ before l i)) = false := bool_not_t hc
          rw [this]; rfl
        | false =>
          have hg : (decide (1 ≤ rd l (i : Int) ∧ rd l (i : Int) ≤ 9) && decide (rd l (i : Int) ≤ before l i)) = true := bool_not_f hc
          have h1 : 1 ≤ rd l (i : Int) ∧ rd l (i : Int) ≤ 9 := by simp only [Bool.and_eq_true, decide_eq_true_eq] at hg; exact hg.1
          rw [hg, Bool.true_and, wrap_id (i := s + rd l (i : Int)) (by omega) (by omega)]
          refine ev_neg (by simp) (ev_ite (fun h => ev_val ?_) (fun h => ?_))
          · rw [decide_eq_false (by omega)]; rfl
          · rw [wrap_succ (by omega), decide_eq_true (by omega), Bool.true_and]
            exact ih _ (by omega) (by omega)
      refine Ev.step (fun k => by rw [impl_IsPartition.l0]) ?_
      refine ev_pos (by omega) (ev_pos (by omega) (ev_pos (by omega) (ev_bindc (impl_within_eq _ _ _) (ev_ite (fun h => ?_) (fun h => ?_)))))
      · cases i with
        | zero =>
          refine ev_neg (by omega) (hstep false ?_)
          rw [decide_eq_true_eq] at h
          have h' : rd l ((0 : Nat) : Int) ≤ before l 0 := by show _ ≤ (9 : Int); omega
          rw [decide_eq_true h, decide_eq_true h']; rfl
        | succ i =>
          have e : wrap64 (((i + 1 : Nat) : Int) - 1) = (i : Int) := by unfold wrap64; omega
          rw [e]
          refine ev_pos (by omega) (ev_pos (by omega) (ev_pos (by omega) (hstep _ ?_)))
          rw [h, Bool.true_and]
          show decide (rd l ((i + 1 : Nat) : Int) > rd l (i : Int)) = !decide (rd l ((i + 1 : Nat) : Int) ≤ rd l (i : Int))
          by_cases g : rd l ((i + 1 : Nat) : Int) ≤ rd l (i : Int)
          · rw [decide_eq_true g, decide_eq_false (by omega)]; rfl
          · rw [decide_eq_false g, decide_eq_true (by omega)]; rfl
      · refine hstep true ?_
        simp only [Bool.not_eq_true] at h
        rw [h]; rfl
  unfold impl_IsPartition.f isPartition
  have := key 0 (by omega) 0 (by omega) (by omega)
  rw [List.drop_zero] at this
  exact this
/-! ### UpTo -/
def upList (n : Nat) : List Int := (List.range n).map fun j => ((j + 1 : Nat) : Int)
@[simp] theorem upList_length (n : Nat) : (upList n).length = n := by simp [upList]
theorem upList_rd (n j : Nat) (h : j < n) : rd (upList n) (j : Int) = ((j + 1 : Nat) : Int) := by
  rw [rd_eq _ j (by simpa using h)]; simp [upList]
theorem upTo_ev (n : Nat) (hn : n ≤ 1048576) : Ev (fun k => impl_upTo.f k (n : Int)) (upList n) := by
  unfold impl_upTo.f
  refine downTo (P := fun i => Ev (fun k => impl_upTo.l0 k (upList i) (n : Int) (i : Int)) (upList n)) n ?_ ?_ 0 (by omega)
  · refine Ev.step (fun k => by rw [impl_upTo.l0]) ?_
    exact ev_neg (by omega) (ev_val rfl)
  · intro i hi h
    refine Ev.step (fun k => by rw [impl_upTo.l0]) ?_
    refine ev_pos (by omega) (ev_pos (by simp; omega) ?_)
    rw [wrap_succ (by omega)]
    have e : upList i ++ [((i + 1 : Nat) : Int)] = upList (i + 1) := by simp [upList, List.range_succ]
    rw [e]
    exact h
/-! ### InsertWord -/
theorem both_fst (w : List Int) (ns : Nat → Int) : ∀ i, i ≤ w.length → (bothAt w ns i).1 = (w.take i).foldl insRows []
  | 0, _ => by simp [bothAt]
  | i + 1, h => by
    show insRows (bothAt w ns i).1 (rd w (i : Int)) = _
    rw [both_fst w ns i (by omega), take_rd w i (by omega), List.foldl_append]
    rfl
theorem both_congr (w : List Int) (ns ns' : Nat → Int) : ∀ i, (∀ k, k < i → ns k = ns' k) → bothAt w ns i = bothAt w ns' i
  | 0, _ => rfl
  | i + 1, h => by
    show (insRows _ _, recQ _ _ _) = (insRows _ _, recQ _ _ _)
    rw [both_congr w ns ns' i (fun k hk => h k (by omega)), h i (by omega)]
/-- the rows of a word -/
def insAll (w : List Int) : List (List Int) := w.foldl insRows []
theorem both_insAll (w : List Int) (ns : Nat → Int) : (bothAt w ns w.length).1 = insAll w := by
  rw [both_fst w ns w.length (Nat.le_refl _), List.take_length]; rfl
theorem impl_InsertWord_ev (l : List Int) : Ev (fun k => impl_InsertWord.f k l) (if isWord l then ([], insAll l, true) else ([], [], false)) := by
  unfold impl_InsertWord.f
  refine ev_bindc (impl_IsWord_eq l) (ev_ite (fun h => ?_) (fun h => ev_val (by rw [if_neg h])))
  have h9 := (isWord_iff.1 h).1
  rw [if_pos h]
  refine Ev.bind (upTo_ev l.length (by omega)) (ev_pos ⟨by omega, by simp⟩ (ev_val ?_))
  rw [both_insAll]
theorem bulk_ins : ∀ (p : List (List Int)) (x : Int), bulk (insRows p x) = bulk p + 1
  | [], _ => rfl
  | r :: l, x => by
    simp only [insRows]
    split
    · simp only [bulk, List.length_append, List.length_cons, List.length_nil]; omega
    · simp only [bulk, List.length_set]; rw [bulk_ins l _]; omega
theorem len_ins (p : List (List Int)) (x : Int) : (insRows p x).length ≤ p.length + 1 := by
  rcases insRows_length p x with h | h <;> omega
theorem insAll_small (w : List Int) : bulk (insAll w) = w.length ∧ (insAll w).length ≤ w.length := by
  suffices h : ∀ (w : List Int) (p : List (List Int)), bulk (w.foldl insRows p) = bulk p + w.length ∧ (w.foldl insRows p).length ≤ p.length + w.length by
    have := h w []
    simp only [bulk, List.length_nil, Nat.zero_add] at this
    exact this
  intro w
  induction w with
  | nil => intro p; exact ⟨by simp, by simp⟩
  | cons x w ih =>
    intro p
    obtain ⟨h1, h2⟩ := ih (insRows p x)
    rw [bulk_ins] at h1
    have := len_ins p x
    simp only [List.foldl_cons, List.length_cons]
    exact ⟨by omega, by omega⟩
/-! ### Inside -/
def isInside (q p : List Int) : Bool := isPartition q && isPartition p && (List.range q.length).all (fun i => decide (rd q (i : Int) ≤ at0 p (i : Int)))
theorem inside_all (q p : List Int) (i : Nat) : ((List.range q.length).all (fun i => decide (rd q (i : Int) ≤ at0 p (i : Int))) = true) ↔ ∀ j, j < q.length → rd q (j : Int) ≤ at0 p (j : Int) := by
  rw [List.all_eq_true]
  constructor
  · intro h j hj; have := h j (List.mem_range.2 hj); simpa using this
  · intro h j hj; simpa using h j (List.mem_range.1 hj)
theorem isInside_len {q p : List Int} (h : isInside q p = true) : isPartition q = true ∧ isPartition p = true ∧ q.length ≤ p.length ∧ ∀ j, j < q.length → rd q (j : Int) ≤ rd p (j : Int) := by
  unfold isInside at h
  simp only [Bool.and_eq_true] at h
  obtain ⟨⟨h1, h2⟩, h3⟩ := h
  rw [inside_all q p 0] at h3
  have hb := (isPartition_bd h1).2.2
  have hlen : q.length ≤ p.length := by
    apply Classical.byContradiction
    intro hn
    have := h3 p.length (by omega)
    rw [at0_out _ _ (.inr (by omega))] at this
    have := (hb _ (rd_mem q p.length (by omega))).1
    omega
  refine ⟨h1, h2, hlen, fun j hj => ?_⟩
  have := h3 j hj
  rwa [at0_nat p j (by omega)] at this
theorem impl_IsInside_ev (q p : List Int) (hq : q.length ≤ 1048576) (hp : p.length ≤ 1048576) : Ev (fun k => impl_IsInside.f k q p) (isInside q p) := by
  unfold impl_IsInside.f isInside
  refine Ev.bind (impl_IsPartition_ev q hq) (ev_ite (fun h1 => ?_) (fun h1 => ?_))
  · refine Ev.bind (impl_IsPartition_ev p hp) (Ev.step (fun k => by rw [impl_IsInside.j0]) ?_)
    rw [h1, Bool.true_and]
    by_cases h2 : isPartition p = true
    · rw [h2, Bool.true_and]
      refine ev_neg (by simp) ?_
      have key : ∀ i, i ≤ q.length → ∃ b, Ev (fun k => impl_IsInside.l0 k p q (q.length : Int) (i : Int)) b ∧ (b = true ↔ ∀ j, i ≤ j → j < q.length → rd q (j : Int) ≤ at0 p (j : Int)) := by
        refine downTo q.length ?_ ?_
        · refine ⟨true, ?_, by simp; intro j a b; omega⟩
          refine Ev.step (fun k => by rw [impl_IsInside.l0]) ?_
          exact ev_neg (by omega) (ev_val rfl)
        · rintro i hi ⟨b, hb, hiff⟩
          by_cases hc : rd q (i : Int) > at0 p (i : Int)
          · refine ⟨false, ?_, ?_⟩
            · refine Ev.step (fun k => by rw [impl_IsInside.l0]) ?_
              exact ev_pos (by omega) (ev_pos (by omega) (ev_pos (by omega) (ev_bindc (impl_at_eq p _ hp) (ev_pos hc (ev_val rfl)))))
            · constructor
              · intro h; cases h
              · intro h; have := h i (Nat.le_refl _) hi; omega
          · refine ⟨b, ?_, ?_⟩
            · refine Ev.step (fun k => by rw [impl_IsInside.l0]) ?_
              refine ev_pos (by omega) (ev_pos (by omega) (ev_pos (by omega) (ev_bindc (impl_at_eq p _ hp) (ev_neg hc ?_))))
              rw [wrap_succ (by omega)]; exact hb
            · rw [hiff]
              constructor
              · intro h j a c
                by_cases e : j = i
                · subst e; omega
                · exact h j (by omega) c
              · intro h j a c; exact h j (by omega) c
      obtain ⟨b, hb, hiff⟩ := key 0 (by omega)
      refine ev_eq hb ?_
      rw [Bool.eq_iff_iff, hiff, inside_all q p 0]
      exact ⟨fun h j hj => h j (by omega) hj, fun h j _ hj => h j hj⟩
    · simp only [Bool.not_eq_true] at h2
      rw [h2]
      exact ev_pos rfl (ev_val rfl)
  · simp only [Bool.not_eq_true] at h1
    rw [h1]
    refine Ev.step (fun k => by rw [impl_IsInside.j0]) ?_; exact ev_pos rfl (ev_val rfl)
theorem impl_IsShape_ev (o n : List Int) (ho : o.length ≤ 1048576) (hn : n.length ≤ 1048576) : Ev (fun k => impl_IsShape.f k o n) (isInside n o) := by
  unfold impl_IsShape.f
  exact Ev.bind (impl_IsInside_ev n o hn ho) (ev_val rfl)
/-! ### ShapeOf -/
/-- how far row i reaches -/
def reachOf (n : List Int) (m : List (List Int)) (i : Nat) : Int := at0 n (i : Int) + ((rd_L2 m (i : Int)).length : Int)
/-- the outer partition: how long each row reaches -/
def outerOf (n : List Int) (m : List (List Int)) : List Int := (List.range m.length).map (reachOf n m)
def hasShape (n : List Int) (m : List (List Int)) : Bool := isPartition n && decide (n.length ≤ m.length) && isInside n (outerOf n m)
def shapeOf (n : List Int) (m : List (List Int)) : List Int × List Int × Bool := if hasShape n m then (outerOf n m, n, true) else ([], [], false)
theorem outerOf_length (n : List Int) (m : List (List Int)) : (outerOf n m).length = m.length := by simp [outerOf]
theorem outerOf_rd (n : List Int) (m : List (List Int)) (i : Nat) (h : i < m.length) : rd (outerOf n m) (i : Int) = at0 n (i : Int) + ((rd_L2 m (i : Int)).length : Int) := by
  rw [rd_eq _ i (by rw [outerOf_length]; exact h)]
  simp [outerOf, reachOf]
theorem at0_bd {n : List Int} (h : isPartition n = true) (i : Int) : 0 ≤ at0 n i ∧ at0 n i ≤ 9 := by
  have hb := (isPartition_bd h).2.2
  unfold at0
  split
  · rename_i hi
    obtain ⟨j, rfl⟩ : ∃ j : Nat, i = (j : Int) := ⟨i.toNat, by omega⟩
    have := hb _ (rd_mem n j (by omega))
    omega
  · omega
/-- what has a shape is small -/
theorem hasShape_bd {n : List Int} {m : List (List Int)} (h : hasShape n m = true) : isPartition n = true ∧ n.length ≤ m.length ∧ m.length ≤ 9 ∧ isPartition (outerOf n m) = true ∧ (∀ i, i < m.length → 1 ≤ at0 n (i : Int) + ((rd_L2 m (i : Int)).length : Int) ∧ at0 n (i : Int) + ((rd_L2 m (i : Int)).length : Int) ≤ 9) := by
  unfold hasShape at h
  simp only [Bool.and_eq_true, decide_eq_true_eq] at h
  obtain ⟨⟨h1, h2⟩, h3⟩ := h
  obtain ⟨_, h4, _, _⟩ := isInside_len h3
  obtain ⟨_, g2, g3⟩ := isPartition_bd h4
  rw [outerOf_length] at g2
  refine ⟨h1, h2, g2, h4, fun i hi => ?_⟩
  have := g3 _ (rd_mem (outerOf n m) i (by rw [outerOf_length]; exact hi))
  rw [outerOf_rd n m i hi] at this
  exact this
theorem range_snoc' (n : List Int) (m : List (List Int)) (i : Nat) : (List.range (i + 1)).map (reachOf n m) = (List.range i).map (reachOf n m) ++ [reachOf n m i] := by simp [List.range_succ]
theorem impl_ShapeOf_ev (n : List Int) (m : List (List Int)) (hn : n.length ≤ 1048576) (hm : m.length ≤ 1048576) (hr : ∀ r ∈ m, r.length ≤ 1048576) : Ev (fun k => impl_ShapeOf.f k n m) (shapeOf n m) := by
  unfold impl_ShapeOf.f
  refine Ev.bind (impl_IsPartition_ev n hn) (ev_ite (fun h1 => ?_) (fun h1 => ?_))
  · refine Ev.step (fun k => by rw [impl_ShapeOf.j0]) ?_
    by_cases h2 : n.length ≤ m.length
    · refine ev_neg (by simpa using h2) (ev_bindc (b := n) (by unfold slices_Clone_int_int.f; rw [if_pos (by omega)]) ?_)
      have key : ∀ i, i ≤ m.length → Ev (fun k => impl_ShapeOf.l0 k m (m.length : Int) (i : Int) n m ((List.range i).map (reachOf n m)) n) (shapeOf n m) := by
        refine downTo m.length ?_ ?_
        · refine Ev.step (fun k => by rw [impl_ShapeOf.l0]) ?_
          refine ev_neg (by omega) (Ev.bind (impl_IsShape_ev (outerOf n m) n (by rw [outerOf_length]; omega) hn) (ev_ite (fun h3 => ?_) (fun h3 => ?_)))
          · refine ev_val ?_
            unfold shapeOf hasShape
            rw [h1, h3, decide_eq_true h2]; rfl
          · simp only [Bool.not_eq_true] at h3
            refine ev_val ?_
            unfold shapeOf hasShape
            rw [h3, Bool.and_false]; rfl
        · intro i hi ih
          have hb := at0_bd h1 (i : Int)
          have hl := hr _ (rows_mem m i hi)
          refine Ev.step (fun k => by rw [impl_ShapeOf.l0]) ?_
          refine ev_pos (by omega) (ev_pos (by omega) (ev_pos (by omega) (ev_bindc (impl_at_eq n _ hn) (ev_pos (by simp; omega) ?_))))
          rw [wrap_succ (by omega), wrap_id (by omega) (by omega)]
          rw [range_snoc', reachOf] at ih
          exact ih
      exact key 0 (by omega)
    · refine ev_pos (by simpa using h2) (ev_val ?_)
      unfold shapeOf hasShape
      rw [decide_eq_false h2, Bool.and_false]; rfl
  · simp only [Bool.not_eq_true] at h1
    refine Ev.step (fun k => by rw [impl_ShapeOf.j0]) ?_
    refine ev_pos rfl (ev_val ?_)
    unfold shapeOf hasShape
    rw [h1]; rfl
/-! ### ShapeOfWord -/
def shapeOfWord (l : List Int) : List Int := if isWord l then (shapeOf [] (insAll l)).1 else []
theorem insAll_rows (l : List Int) : ∀ r ∈ insAll l, r.length ≤ l.length := fun r hr => by
  have h1 := (insAll_small l).1
  have h2 := bulk_mem hr
  omega
theorem shape_small (n : List Int) (m : List (List Int)) : (shapeOf n m).1.length ≤ m.length := by
  unfold shapeOf
  split
  · rw [outerOf_length]; exact Nat.le_refl _
  · simp
theorem shapeOfWord_small (l : List Int) : (shapeOfWord l).length ≤ 9 := by
  unfold shapeOfWord
  split
  · rename_i h
    have h9 := (isWord_iff.1 h).1
    have h1 := shape_small [] (insAll l)
    have h2 := (insAll_small l).2
    omega
  · simp
theorem impl_ShapeOfWord_ev (l : List Int) : Ev (fun k => impl_ShapeOfWord.f k l) (shapeOfWord l) := by
  unfold impl_ShapeOfWord.f
  refine Ev.bind (impl_InsertWord_ev l) ?_
  by_cases h : isWord l = true
  · have h9 := (isWord_iff.1 h).1
    have hs := insAll_small l
    rw [if_pos h]
    refine ev_pos rfl (Ev.bind (impl_ShapeOf_ev [] (insAll l) (by simp) (by omega) (fun r hr => by have := insAll_rows l r hr; omega)) (ev_val ?_))
    rw [shapeOfWord, if_pos h]
  · rw [if_neg h]
    refine ev_neg (by simp) (ev_val ?_)
    rw [shapeOfWord, if_neg h]
/-! ### Greene -/
section
/-- no chain of X is longer than k -/
def Short (r : Int → Int → Prop) (k : Nat) (X : List Int) : Prop := ∀ c : List Int, c.Sublist X → c.Pairwise r → c.length ≤ k
/-- n members of w can be chosen with no chain longer than k -/
def Fit (r : Int → Int → Prop) (k n : Nat) (w : List Int) : Prop := ∃ X, X.Sublist w ∧ X.length = n ∧ Short r k X
theorem pw3 {r : Int → Int → Prop} {a b c : List Int} : (a ++ b ++ c).Pairwise r ↔ a.Pairwise r ∧ b.Pairwise r ∧ c.Pairwise r ∧ (∀ x ∈ a, ∀ y ∈ b, r x y) ∧ (∀ x ∈ a, ∀ y ∈ c, r x y) ∧ (∀ x ∈ b, ∀ y ∈ c, r x y) := by
  rw [List.pairwise_append, List.pairwise_append]
  constructor
  · rintro ⟨⟨h1, h2, h3⟩, h4, h5⟩
    exact ⟨h1, h2, h4, h3, fun x hx y hy => h5 x (List.mem_append_left _ hx) y hy, fun x hx y hy => h5 x (List.mem_append_right _ hx) y hy⟩
  · rintro ⟨h1, h2, h3, h4, h5, h6⟩
    refine ⟨⟨h1, h2, h4⟩, h3, fun x hx y hy => ?_⟩
    rcases List.mem_append.1 hx with h | h
    · exact h5 x h y hy
    · exact h6 x h y hy
theorem sub_split {l a b c : List Int} (h : l.Sublist (a ++ b ++ c)) : ∃ x y z, l = x ++ y ++ z ∧ x.Sublist a ∧ y.Sublist b ∧ z.Sublist c := by
  obtain ⟨p, z, rfl, hp, hz⟩ := List.sublist_append_iff.1 h
  obtain ⟨x, y, rfl, hx, hy⟩ := List.sublist_append_iff.1 hp
  exact ⟨x, y, z, rfl, hx, hy, hz⟩
theorem sub_join {a b c x y z : List Int} (hx : x.Sublist a) (hy : y.Sublist b) (hz : z.Sublist c) : (x ++ y ++ z).Sublist (a ++ b ++ c) := (hx.append hy).append hz
theorem sub2 {a b : Int} {m : List Int} (h : m.Sublist [a, b]) : m = [] ∨ m = [a] ∨ m = [b] ∨ m = [a, b] := by
  cases h <;> rename_i h <;> cases h <;> rename_i h <;> cases h <;> simp
theorem sub3 {a b c : Int} {m : List Int} (h : m.Sublist [a, b, c]) : m = [] ∨ m = [a] ∨ m = [b] ∨ m = [c] ∨ m = [a, b] ∨ m = [a, c] ∨ m = [b, c] ∨ m = [a, b, c] := by
  cases h <;> rename_i h <;> cases h <;> rename_i h <;> cases h <;> rename_i h <;> cases h <;> simp
theorem Short.sub {r : Int → Int → Prop} {k : Nat} {X Y : List Int} (h : Short r k X) (hs : Y.Sublist X) : Short r k Y := fun c hc hp => h c (hc.trans hs) hp
theorem fit_gone {r : Int → Int → Prop} {k n : Nat} {U V : List Int} {y p q : Int} (h5 : ¬ r q p) (h : Fit r k n (U ++ [y, p, q] ++ V)) : Fit r k n (U ++ [y, q, p] ++ V) := by
  obtain ⟨X, hX, hn, hS⟩ := h
  obtain ⟨a, m, b, rfl, ha, hm, hb⟩ := sub_split hX
  have same : m.Sublist [y, q, p] → Fit r k n (U ++ [y, q, p] ++ V) := fun h => ⟨_, sub_join ha h hb, hn, hS⟩
  have swap : ∀ m' : List Int, m'.Sublist [y, q, p] → m'.length = m.length → (∀ d : List Int, d.Sublist m' → d.Pairwise r → d.Sublist m) → Fit r k n (U ++ [y, q, p] ++ V) := fun m' hm' hl hd => by
    refine ⟨a ++ m' ++ b, sub_join ha hm' hb, by simp [← hn, hl], fun c hc hp => ?_⟩
    obtain ⟨x, d, z, rfl, hx, hd', hz⟩ := sub_split hc
    exact hS _ (sub_join hx (hd d hd' (pw3.1 hp).2.1) hz) hp
  rcases sub3 hm with rfl | rfl | rfl | rfl | rfl | rfl | rfl | rfl
  · exact same (by simp)
  · exact same (by simp)
  · exact same (by simp)
  · exact same (by simp)
  · exact same (by simp)
  · exact same (by simp)
  · refine swap [q, p] (by simp) (by simp) fun d hd hp => ?_
    rcases sub2 hd with rfl | rfl | rfl | rfl
    · simp
    · simp
    · simp
    · simp [h5] at hp
  · refine swap [y, q, p] (by simp) (by simp) fun d hd hp => ?_
    rcases sub3 hd with rfl | rfl | rfl | rfl | rfl | rfl | rfl | rfl
    · simp
    · simp
    · simp
    · simp
    · simp
    · simp
    · simp [h5] at hp
    · simp [h5] at hp
theorem fit_made {r : Int → Int → Prop} {k n : Nat} {U V : List Int} {y p q : Int} (ht : ∀ a b c, r a b → r b c → r a c) (h1 : ∀ e, r e p → r e y) (h2 : r y q) (h3 : ∀ e, r y e → r p e) (h4 : ¬ r y p)
    (h : Fit r k n (U ++ [y, q, p] ++ V)) : Fit r k n (U ++ [y, p, q] ++ V) := by
  obtain ⟨X, hX, hn, hS⟩ := h
  obtain ⟨a, m, b, rfl, ha, hm, hb⟩ := sub_split hX
  have same : m.Sublist [y, p, q] → Fit r k n (U ++ [y, p, q] ++ V) := fun h => ⟨_, sub_join ha h hb, hn, hS⟩
  rcases sub3 hm with rfl | rfl | rfl | rfl | rfl | rfl | rfl | rfl
  · exact same (by simp)
  · exact same (by simp)
  · exact same (by simp)
  · exact same (by simp)
  · exact same (by simp)
  · exact same (by simp)
  · -- q and p are chosen, y is not
    by_cases hs : Short r k (a ++ [p, q] ++ b)
    · exact ⟨_, sub_join ha (by simp) hb, by simpa using hn, hs⟩
    · unfold Short at hs
      simp only [Classical.not_forall] at hs
      obtain ⟨c, hc, hp, hk⟩ := hs
      obtain ⟨d1, d2, d3, rfl, hd1, hd2, hd3⟩ := sub_split hc
      have hd : d2 = [p, q] := by
        rcases sub2 hd2 with rfl | rfl | rfl | rfl
        · exact absurd (hS _ (sub_join hd1 (by simp) hd3) hp) hk
        · exact absurd (hS _ (sub_join hd1 (by simp) hd3) hp) hk
        · exact absurd (hS _ (sub_join hd1 (by simp) hd3) hp) hk
        · rfl
      subst hd
      obtain ⟨p1, p2, p3, p4, p5, p6⟩ := pw3.1 hp
      refine ⟨a ++ [y, p] ++ b, sub_join ha (by simp) hb, by simpa using hn, fun c hc' hp' => ?_⟩
      obtain ⟨e1, e2, e3, rfl, he1, he2, he3⟩ := sub_split hc'
      obtain ⟨q1, q2, q3, q4, q5, q6⟩ := pw3.1 hp'
      rcases sub2 he2 with rfl | rfl | rfl | rfl
      · exact hS _ (sub_join he1 (by simp) he3) hp'
      · have s1 := hS (e1 ++ [q] ++ d3) (sub_join he1 (by simp) hd3) (pw3.2 ⟨q1, by simp, p3, fun x hx z hz => by
          obtain rfl : z = q := by simpa using hz
          exact ht _ _ _ (q4 x hx y (by simp)) h2, fun x hx z hz => ht _ _ _ (ht _ _ _ (q4 x hx y (by simp)) h2) (p6 q (by simp) z hz), fun x hx z hz => by
          obtain rfl : x = q := by simpa using hx
          exact p6 x (by simp) z hz⟩)
        have s2 := hS (d1 ++ [p] ++ e3) (sub_join hd1 (by simp) he3) (pw3.2 ⟨p1, by simp, q3, fun x hx z hz => by
          obtain rfl : z = p := by simpa using hz
          exact p4 x hx z (by simp), fun x hx z hz => ht _ _ _ (p4 x hx p (by simp)) (h3 z (q6 y (by simp) z hz)), fun x hx z hz => by
          obtain rfl : x = p := by simpa using hx
          exact h3 z (q6 y (by simp) z hz)⟩)
        simp at s1 s2 hk ⊢
        omega
      · exact hS _ (sub_join he1 (by simp) he3) hp'
      · simp [h4] at q2
  · refine ⟨a ++ [y, p, q] ++ b, sub_join ha (by simp) hb, by simpa using hn, fun c hc hp => ?_⟩
    obtain ⟨x, d, z, rfl, hx, hd, hz⟩ := sub_split hc
    obtain ⟨p1, p2, p3, p4, p5, p6⟩ := pw3.1 hp
    rcases sub3 hd with rfl | rfl | rfl | rfl | rfl | rfl | rfl | rfl
    · exact hS _ (sub_join hx (by simp) hz) hp
    · exact hS _ (sub_join hx (by simp) hz) hp
    · exact hS _ (sub_join hx (by simp) hz) hp
    · exact hS _ (sub_join hx (by simp) hz) hp
    · simp [h4] at p2
    · exact hS _ (sub_join hx (by simp) hz) hp
    · have := hS (x ++ [y, q] ++ z) (sub_join hx (by simp) hz) (pw3.2 ⟨p1, by simpa using h2, p3, fun u hu v hv => by
        have hup := p4 u hu p (by simp)
        rcases (by simpa using hv : v = y ∨ v = q) with rfl | rfl
        · exact h1 u hup
        · exact p4 u hu _ (by simp), p5, fun u hu v hv => by
        rcases (by simpa using hu : u = y ∨ u = q) with rfl | rfl
        · exact ht _ _ _ h2 (p6 q (by simp) v hv)
        · exact p6 _ (by simp) v hv⟩)
      simpa using this
    · simp [h4] at p2
theorem fit_before {r : Int → Int → Prop} {k n : Nat} {U V : List Int} {y p q : Int} (ht : ∀ a b c, r a b → r b c → r a c) (h1 : ∀ e, r e p → r e y) (h2 : r y q) (h3 : ∀ e, r y e → r p e) (h4 : ¬ r y p) (h5 : ¬ r q p) :
    Fit r k n (U ++ [y, q, p] ++ V) ↔ Fit r k n (U ++ [y, p, q] ++ V) := ⟨fit_made ht h1 h2 h3 h4, fit_gone h5⟩
theorem short_reverse {r : Int → Int → Prop} {k : Nat} {X : List Int} (h : Short r k X) : Short (fun a b => r b a) k X.reverse := fun c hc hp => by
  have := h c.reverse (by simpa using hc.reverse) (List.pairwise_reverse.2 hp)
  simpa using this
theorem fit_reverse {r : Int → Int → Prop} {k n : Nat} {w : List Int} : Fit r k n w ↔ Fit (fun a b => r b a) k n w.reverse := by
  constructor
  · rintro ⟨X, h1, h2, h3⟩
    exact ⟨X.reverse, h1.reverse, by simpa using h2, short_reverse h3⟩
  · rintro ⟨X, h1, h2, h3⟩
    exact ⟨X.reverse, by simpa using h1.reverse, by simpa using h2, short_reverse h3⟩
theorem fit_after {r : Int → Int → Prop} {k n : Nat} {U V : List Int} {y p q : Int} (ht : ∀ a b c, r a b → r b c → r a c) (h1 : ∀ e, r q e → r y e) (h2 : r p y) (h3 : ∀ e, r e y → r e q) (h4 : ¬ r q y) (h5 : ¬ r q p) :
    Fit r k n (U ++ [q, p, y] ++ V) ↔ Fit r k n (U ++ [p, q, y] ++ V) := by
  rw [fit_reverse, fit_reverse (w := U ++ [p, q, y] ++ V)]
  have := fit_before (r := fun a b => r b a) (k := k) (n := n) (U := V.reverse) (V := U.reverse) (y := y) (p := q) (q := p) (fun a b c x y => ht _ _ _ y x) h1 h2 h3 h4 h5
  simpa using this
/-- an exchange of Knuth -/
inductive Knuth : List Int → List Int → Prop
  | before (U V : List Int) (x y z : Int) : x < y → y ≤ z → Knuth (U ++ [y, x, z] ++ V) (U ++ [y, z, x] ++ V)
  | after (U V : List Int) (x y z : Int) : x ≤ y → y < z → Knuth (U ++ [x, z, y] ++ V) (U ++ [z, x, y] ++ V)
inductive Eqv : List Int → List Int → Prop
  | refl (w) : Eqv w w
  | step {u v} : Knuth u v → Eqv u v
  | symm {u v} : Eqv u v → Eqv v u
  | trans {u v w} : Eqv u v → Eqv v w → Eqv u w
theorem fit_fall_knuth {u v : List Int} (h : Knuth u v) (k n : Nat) : Fit (fun a b => b < a) k n u ↔ Fit (fun a b => b < a) k n v := by
  cases h with
  | before U V x y z h1 h2 => exact fit_before (p := z) (q := x) (fun _ _ _ _ _ => by omega) (fun _ _ => by omega) h1 (fun _ _ => by omega) (by omega) (by omega)
  | after U V x y z h1 h2 => exact fit_after (p := z) (q := x) (fun _ _ _ _ _ => by omega) (fun _ _ => by omega) h2 (fun _ _ => by omega) (by omega) (by omega)
theorem fit_rise_knuth {u v : List Int} (h : Knuth u v) (k n : Nat) : Fit (fun a b => a ≤ b) k n u ↔ Fit (fun a b => a ≤ b) k n v := by
  cases h with
  | before U V x y z h1 h2 => exact (fit_before (p := x) (q := z) (fun _ _ _ _ _ => by omega) (fun _ _ => by omega) h2 (fun _ _ => by omega) (by omega) (by omega)).symm
  | after U V x y z h1 h2 => exact (fit_after (p := x) (q := z) (fun _ _ _ _ _ => by omega) (fun _ _ => by omega) h1 (fun _ _ => by omega) (by omega) (by omega)).symm
theorem fit_eqv {u v : List Int} (h : Eqv u v) (k n : Nat) : (Fit (fun a b => b < a) k n u ↔ Fit (fun a b => b < a) k n v) ∧ (Fit (fun a b => a ≤ b) k n u ↔ Fit (fun a b => a ≤ b) k n v) := by
  induction h with
  | refl => exact ⟨Iff.rfl, Iff.rfl⟩
  | step h => exact ⟨fit_fall_knuth h k n, fit_rise_knuth h k n⟩
  | symm _ ih => exact ⟨ih.1.symm, ih.2.symm⟩
  | trans _ _ i j => exact ⟨i.1.trans j.1, i.2.trans j.2⟩
theorem Eqv.within {u v : List Int} (h : Eqv u v) (A B : List Int) : Eqv (A ++ u ++ B) (A ++ v ++ B) := by
  induction h with
  | refl => exact .refl _
  | step h =>
    cases h with
    | before U V x y z h1 h2 =>
      have := Knuth.before (A ++ U) (V ++ B) x y z h1 h2
      exact .step (by simpa using this)
    | after U V x y z h1 h2 =>
      have := Knuth.after (A ++ U) (V ++ B) x y z h1 h2
      exact .step (by simpa using this)
  | symm _ ih => exact ih.symm
  | trans _ _ i j => exact i.trans j
end
section
theorem idxFrom_split (p : Int → Bool) (l : List Int) : ∀ k : Nat, (idxFrom p l k < 0 ∧ ∀ e ∈ l, p e = false) ∨ (∃ (A : List Int) (b : Int) (B : List Int), l = A ++ b :: B ∧ (∀ e ∈ A, p e = false) ∧ p b = true ∧ idxFrom p l k = ((k + A.length : Nat) : Int)) := by
  induction l with
  | nil => intro k; exact .inl ⟨by simp [idxFrom], by simp⟩
  | cons x l ih =>
    intro k
    by_cases h : p x = true
    · refine .inr ⟨[], x, l, rfl, by simp, h, ?_⟩
      simp [idxFrom, h]
    · have hx : p x = false := by simpa using h
      rcases ih (k + 1) with ⟨h1, h2⟩ | ⟨A, b, B, h1, h2, h3, h4⟩
      · refine .inl ⟨by simpa [idxFrom, hx] using h1, ?_⟩
        intro e he
        rcases List.mem_cons.1 he with rfl | he
        · exact hx
        · exact h2 e he
      · refine .inr ⟨x :: A, b, B, by simp [h1], ?_, h3, ?_⟩
        · intro e he
          rcases List.mem_cons.1 he with rfl | he
          · exact hx
          · exact h2 e he
        · simp only [idxFrom, hx]
          rw [if_neg (by simp), h4]; simp only [List.length_cons]; omega
theorem bump_split (r : List Int) (x : Int) : (bump r x < 0 ∧ ∀ e ∈ r, e ≤ x) ∨ (∃ (A : List Int) (b : Int) (B : List Int), r = A ++ b :: B ∧ (∀ e ∈ A, e ≤ x) ∧ x < b ∧ bump r x = (A.length : Int)) := by
  rcases idxFrom_split (fun n => decide (x < n)) r 0 with ⟨h1, h2⟩ | ⟨A, b, B, h1, h2, h3, h4⟩
  · exact .inl ⟨h1, fun e he => by have := h2 e he; simpa using this⟩
  · exact .inr ⟨A, b, B, h1, fun e he => by have := h2 e he; simpa using this, by simpa using h3, by unfold bump; simpa using h4⟩
theorem ins_keep {r : List Int} {l : List (List Int)} {x : Int} (h : bump r x < 0) : insRows (r :: l) x = (r ++ [x]) :: l := by simp only [insRows]; rw [if_pos h]
theorem ins_bump {A B : List Int} {b x : Int} {l : List (List Int)} (h : bump (A ++ b :: B) x = (A.length : Int)) : insRows ((A ++ b :: B) :: l) x = (A ++ x :: B) :: insRows l b := by
  simp only [insRows]; rw [if_neg (by omega), h]; simp [rd]
/-- the word that is read from the last row to the first one -/
def readRows : List (List Int) → List Int
  | [] => []
  | r :: l => readRows l ++ r
def Sorted (r : List Int) : Prop := r.Pairwise (fun a b => a ≤ b)
theorem row_left (B : List Int) : ∀ b x : Int, x < b → Sorted (b :: B) → Eqv ((b :: B) ++ [x]) (b :: x :: B) := by
  induction B with
  | nil => intro b x _ _; exact .refl _
  | cons c B ih =>
    intro b x hx hs
    have hs' := List.pairwise_cons.1 hs
    have hbc : b ≤ c := hs'.1 c (by simp)
    have h1 := Eqv.within (ih c x (by omega) hs'.2) [b] []
    have h2 := Eqv.step (Knuth.before [] B x b c hx hbc)
    simp only [List.cons_append, List.nil_append, List.append_nil] at h1 h2 ⊢
    exact h1.trans h2.symm
theorem row_right (A : List Int) (b x : Int) (B : List Int) (hx : x < b) (hA : ∀ e ∈ A, e ≤ x) (hs : Sorted A) : Eqv (A ++ b :: x :: B) (b :: (A ++ x :: B)) := by
  induction A with
  | nil => exact .refl _
  | cons a A ih =>
    have hs' := List.pairwise_cons.1 hs
    have h1 := Eqv.within (ih (fun e he => hA e (List.mem_cons_of_mem _ he)) hs'.2) [a] []
    obtain ⟨h, t, e, ha, hb⟩ : ∃ h t, A ++ x :: B = h :: t ∧ a ≤ h ∧ h < b := by
      cases A with
      | nil => exact ⟨x, B, rfl, hA a (by simp), hx⟩
      | cons c A => exact ⟨c, A ++ x :: B, rfl, hs'.1 c (by simp), by have := hA c (by simp); omega⟩
    have h2 := Eqv.step (Knuth.after [] t a h b ha hb)
    rw [List.cons_append, List.cons_append]
    rw [e] at h1 ⊢
    simp only [List.cons_append, List.nil_append, List.append_nil] at h1 h2 ⊢
    exact h1.trans h2
theorem ins_eqv (l : List (List Int)) : ∀ x, (∀ r ∈ l, Sorted r) → Eqv (readRows l ++ [x]) (readRows (insRows l x)) := by
  induction l with
  | nil => intro x _; exact .refl _
  | cons r l ih =>
    intro x hs
    rcases bump_split r x with ⟨h1, _⟩ | ⟨A, b, B, rfl, h2, h3, h4⟩
    · rw [ins_keep h1]; simp only [readRows, List.append_assoc]; exact .refl _
    · rw [ins_bump h4]
      have hr := hs _ (List.mem_cons_self ..)
      obtain ⟨s1, s2, s3⟩ := List.pairwise_append.1 hr
      have e1 := Eqv.within (row_left B b x h3 s2) (readRows l ++ A) []
      have e2 := Eqv.within (row_right A b x B h3 h2 s1) (readRows l) []
      have e3 := Eqv.within (ih b (fun q hq => hs q (List.mem_cons_of_mem _ hq))) [] (A ++ x :: B)
      simp only [readRows, List.append_assoc, List.cons_append, List.nil_append, List.append_nil] at e1 e2 e3 ⊢
      exact (e1.trans e2).trans e3
/-- each row that follows is shorter or as long, and its numbers are greater -/
def Below2 (R S : List Int) : Prop := S.length ≤ R.length ∧ ∀ i (h : i < S.length) (h' : i < R.length), R[i] < S[i]
def Tabl : List (List Int) → Prop
  | [] => True
  | [r] => Sorted r ∧ r ≠ []
  | r :: s :: l => Sorted r ∧ r ≠ [] ∧ Below2 r s ∧ Tabl (s :: l)
theorem Tabl.tail {r : List Int} {l : List (List Int)} (h : Tabl (r :: l)) : Tabl l := by
  cases l with
  | nil => trivial
  | cons s l => exact h.2.2.2
theorem Tabl.head {r : List Int} {l : List (List Int)} (h : Tabl (r :: l)) : Sorted r ∧ r ≠ [] := by
  cases l with
  | nil => exact h
  | cons s l => exact ⟨h.1, h.2.1⟩
theorem Tabl.next {r s : List Int} {l : List (List Int)} (h : Tabl (r :: s :: l)) : Below2 r s := h.2.2.1
theorem Tabl.mk {r : List Int} {l : List (List Int)} (h1 : Sorted r) (h2 : r ≠ []) (h3 : ∀ s, l.head? = some s → Below2 r s) (h : Tabl l) : Tabl (r :: l) := by
  cases l with
  | nil => exact ⟨h1, h2⟩
  | cons s l => exact ⟨h1, h2, h3 s rfl, h⟩
theorem Tabl.rows {l : List (List Int)} (h : Tabl l) : ∀ r ∈ l, Sorted r ∧ r ≠ [] := by
  induction l with
  | nil => simp
  | cons r l ih =>
    intro q hq
    rcases List.mem_cons.1 hq with rfl | hq
    · exact h.head
    · exact ih h.tail q hq
theorem sorted_append_one {r : List Int} {x : Int} (h : Sorted r) (hx : ∀ e ∈ r, e ≤ x) : Sorted (r ++ [x]) :=
  List.pairwise_append.2 ⟨h, by simp, fun a ha b hb => by obtain rfl : b = x := by simpa using hb
                                                          exact hx a ha⟩
theorem sorted_swap {A B : List Int} {b x : Int} (h : Sorted (A ++ b :: B)) (hA : ∀ e ∈ A, e ≤ x) (hx : x < b) : Sorted (A ++ x :: B) := by
  obtain ⟨s1, s2, s3⟩ := List.pairwise_append.1 h
  obtain ⟨s4, s5⟩ := List.pairwise_cons.1 s2
  refine List.pairwise_append.2 ⟨s1, List.pairwise_cons.2 ⟨fun e he => by have := s4 e he; omega, s5⟩, fun a ha e he => ?_⟩
  rcases List.mem_cons.1 he with rfl | he
  · exact hA a ha
  · exact s3 a ha e (List.mem_cons_of_mem _ he)
/-- the row that b goes into stands below the row that it came from -/
theorem below_step {A B S : List Int} {b x : Int} {l : List (List Int)} (hx : x < b) (hA : ∀ e ∈ A, e ≤ x) (hd : ∀ s, (S :: l).head? = some s → Below2 (A ++ b :: B) s) (s : List Int) (hs : (insRows (S :: l) b).head? = some s) : Below2 (A ++ x :: B) s := by
  obtain ⟨hl, hd⟩ := hd S rfl
  rcases bump_split S b with ⟨h1, h2⟩ | ⟨C, c, D, rfl, h2, h3, h4⟩
  · rw [ins_keep h1] at hs
    obtain rfl : s = S ++ [b] := by simpa using hs.symm
    have hlen : S.length ≤ A.length := by
      rcases Nat.lt_or_ge A.length S.length with h | h
      · have := hd A.length h (by simp)
        have h5 := h2 _ (List.getElem_mem h)
        simp at this
        omega
      · exact h
    refine ⟨by simp only [List.length_append, List.length_cons, List.length_nil]; omega, fun i hi hi' => ?_⟩
    simp at hi
    rcases Nat.lt_or_ge i S.length with h | h
    · rw [List.getElem_append_left h, List.getElem_append_left (by omega)]
      have := hd i h (by simp; omega)
      rw [List.getElem_append_left (by omega)] at this
      exact this
    · have hii : i = S.length := by omega
      subst hii
      rw [show (S ++ [b])[S.length]'(by simp) = b by simp]
      rcases Nat.lt_or_ge S.length A.length with h6 | h6
      · rw [List.getElem_append_left h6]
        have := hA _ (List.getElem_mem h6)
        omega
      · rw [List.getElem_append_right h6]
        have : S.length - A.length = 0 := by omega
        simp only [this, List.getElem_cons_zero]
        exact hx
  · rw [ins_bump h4] at hs
    obtain rfl : s = C ++ b :: D := by simpa using hs.symm
    have hlen : C.length ≤ A.length := by
      rcases Nat.lt_or_ge A.length C.length with h | h
      · have := hd A.length (by simp; omega) (by simp)
        rw [List.getElem_append_left h] at this
        have h5 := h2 _ (List.getElem_mem h)
        simp at this
        omega
      · exact h
    refine ⟨by simpa using hl, fun i hi hi' => ?_⟩
    have hup : (A ++ x :: B)[i] ≤ (A ++ b :: B)[i]'(by simpa using hi') := by
      rcases Nat.lt_trichotomy i A.length with h | h | h
      · rw [List.getElem_append_left h, List.getElem_append_left h]; omega
      · subst h; simp; omega
      · rw [List.getElem_append_right (by omega), List.getElem_append_right (by omega)]
        obtain ⟨m, hm⟩ : ∃ m, i - A.length = m + 1 := ⟨i - A.length - 1, by omega⟩
        simp [hm]
    rcases Nat.lt_trichotomy i C.length with h | h | h
    · have := hd i (by simp; omega) (by simpa using hi')
      rw [List.getElem_append_left h] at this ⊢
      omega
    · subst h
      rw [show (C ++ b :: D)[C.length]'(by simp) = b by simp]
      rcases Nat.lt_or_ge C.length A.length with h6 | h6
      · rw [List.getElem_append_left h6]
        have := hA _ (List.getElem_mem h6)
        omega
      · rw [List.getElem_append_right h6]
        have : C.length - A.length = 0 := by omega
        simp only [this, List.getElem_cons_zero]
        exact hx
    · have := hd i (by simpa using hi) (by simpa using hi')
      have e : (C ++ b :: D)[i] = (C ++ c :: D)[i]'(by simpa using hi) := by
        rw [List.getElem_append_right (by omega), List.getElem_append_right (by omega)]
        obtain ⟨m, hm⟩ : ∃ m, i - C.length = m + 1 := ⟨i - C.length - 1, by omega⟩
        simp [hm]
      rw [e]; omega
theorem ins_tabl (l : List (List Int)) : ∀ x, Tabl l → Tabl (insRows l x) := by
  induction l with
  | nil => intro x _; exact ⟨by simp [Sorted], by simp⟩
  | cons r l ih =>
    intro x ht
    obtain ⟨hs, hne⟩ := ht.head
    rcases bump_split r x with ⟨h1, h2⟩ | ⟨A, b, B, rfl, h2, h3, h4⟩
    · rw [ins_keep h1]
      refine Tabl.mk (sorted_append_one hs h2) (by simp) (fun s h => ?_) ht.tail
      cases l with
      | nil => simp at h
      | cons s' l =>
        obtain rfl : s' = s := by simpa using h
        obtain ⟨g1, g2⟩ := ht.next
        refine ⟨by simp; omega, fun i hi hi' => ?_⟩
        rw [List.getElem_append_left (by omega)]
        exact g2 i hi (by omega)
    · rw [ins_bump h4]
      refine Tabl.mk (sorted_swap hs h2 h3) (by simp) (fun s h => ?_) (ih b ht.tail)
      cases l with
      | nil =>
        obtain rfl : [b] = s := by simpa [insRows] using h
        refine ⟨by simp only [List.length_append, List.length_cons, List.length_nil]; omega, fun i hi hi' => ?_⟩
        simp at hi; subst hi
        simp only [List.getElem_cons_zero]
        cases A with
        | nil => simpa using h3
        | cons a A => have := h2 a (by simp); simp; omega
      | cons s' l =>
        refine below_step h3 h2 (fun q hq => ?_) s h
        rw [List.head?_cons] at hq
        injection hq with hq
        exact hq ▸ ht.next
theorem insAll_append (w : List Int) (x : Int) : insAll (w ++ [x]) = insRows (insAll w) x := by simp [insAll]
theorem insAll_tabl (w : List Int) : Tabl (insAll w) := by
  suffices h : ∀ (w : List Int) (t : List (List Int)), Tabl t → Tabl (w.foldl insRows t) from h w [] trivial
  intro w
  induction w with
  | nil => intro t h; exact h
  | cons x w ih => intro t h; exact ih _ (ins_tabl t x h)
theorem insAll_eqv (w : List Int) : Eqv w (readRows (insAll w)) := by
  suffices h : ∀ (w : List Int) (t : List (List Int)), Tabl t → Eqv (readRows t ++ w) (readRows (w.foldl insRows t)) from h w [] trivial
  intro w
  induction w with
  | nil => intro t _; simp; exact .refl _
  | cons x w ih =>
    intro t h
    have h1 := Eqv.within (ins_eqv t x (fun r hr => (h.rows r hr).1)) [] w
    have h2 := ih _ (ins_tabl t x h)
    simp only [List.nil_append, List.append_assoc] at h1
    exact h1.trans h2
end
section
/-- the first column, read upwards -/
def colOf : List (List Int) → List Int
  | [] => []
  | r :: l => colOf l ++ r.take 1
def Tab0 : List (List Int) → Prop
  | [] => True
  | [r] => Sorted r
  | r :: s :: l => Sorted r ∧ Below2 r s ∧ Tab0 (s :: l)
theorem Tabl.weak : ∀ {l : List (List Int)}, Tabl l → Tab0 l
  | [], _ => trivial
  | [_], h => h.1
  | _ :: _ :: _, h => ⟨h.1, h.2.2.1, Tabl.weak h.2.2.2⟩
theorem Tab0.tail {r : List Int} {l : List (List Int)} (h : Tab0 (r :: l)) : Tab0 l := by
  cases l with
  | nil => trivial
  | cons s l => exact h.2.2
theorem Tab0.head {r : List Int} {l : List (List Int)} (h : Tab0 (r :: l)) : Sorted r := by
  cases l with
  | nil => exact h
  | cons s l => exact h.1
theorem Tab0.rows {l : List (List Int)} (h : Tab0 l) : ∀ r ∈ l, Sorted r := by
  induction l with
  | nil => simp
  | cons r l ih =>
    intro q hq
    rcases List.mem_cons.1 hq with rfl | hq
    · exact h.head
    · exact ih h.tail q hq
theorem Tab0.above {l : List (List Int)} : ∀ {r : List Int}, Tab0 (r :: l) → ∀ e ∈ colOf l, ∃ a, r.head? = some a ∧ a < e := by
  induction l with
  | nil => intro r _ e he; simp [colOf] at he
  | cons s l ih =>
    intro r h e he
    obtain ⟨g1, g2⟩ := h.2.1
    have first : ∀ b, s.head? = some b → ∃ a, r.head? = some a ∧ a < b := by
      intro b hb
      cases s with
      | nil => simp at hb
      | cons b' s =>
        obtain rfl : b' = b := by simpa using hb
        cases r with
        | nil => simp at g1
        | cons a r => exact ⟨a, rfl, g2 0 (by simp) (by simp)⟩
    rcases List.mem_append.1 he with he | he
    · obtain ⟨b, hb, hbe⟩ := ih h.2.2 e he
      obtain ⟨a, ha, hab⟩ := first b hb
      exact ⟨a, ha, by omega⟩
    · cases s with
      | nil => simp at he
      | cons b s =>
        obtain rfl : e = b := by simpa using he
        exact first e rfl
theorem col_falls {l : List (List Int)} (h : Tab0 l) : (colOf l).Pairwise (fun a b => b < a) := by
  induction l with
  | nil => simp [colOf]
  | cons r l ih =>
    refine List.pairwise_append.2 ⟨ih h.tail, ?_, fun e he a ha => ?_⟩
    · cases r <;> simp
    · obtain ⟨b, hb, hbe⟩ := h.above e he
      cases r with
      | nil => simp at ha
      | cons c r =>
        obtain rfl : a = c := by simpa using ha
        obtain rfl : a = b := by simpa using hb
        exact hbe
theorem Tab0.tails : ∀ {l : List (List Int)}, Tab0 l → Tab0 (l.map List.tail)
  | [], _ => trivial
  | [r], h => h.sublist (List.tail_sublist r)
  | r :: s :: l, h => by
    refine ⟨h.1.sublist (List.tail_sublist r), ⟨?_, fun i hi hi' => ?_⟩, Tab0.tails (l := s :: l) h.2.2⟩
    · have := h.2.1.1
      simp only [List.length_tail]; omega
    · simp only [List.length_tail] at hi hi'
      rw [List.getElem_tail, List.getElem_tail]
      exact h.2.1.2 (i + 1) (by omega) (by omega)
theorem read_split : ∀ (l : List (List Int)) (X : List Int), X.Sublist (readRows l) → ∃ C X' : List Int, C.Sublist X ∧ C.Sublist (colOf l) ∧ X'.Sublist X ∧ X'.Sublist (readRows (l.map List.tail)) ∧ X.length = C.length + X'.length
  | [], X, h => by
    obtain rfl : X = [] := by simpa [readRows] using h
    exact ⟨[], [], by simp, by simp, by simp, by simp, rfl⟩
  | r :: l, X, h => by
    obtain ⟨X1, X2, rfl, h1, h2⟩ := List.sublist_append_iff.1 h
    obtain ⟨C, Y, c1, c2, c3, c4, c5⟩ := read_split l X1 h1
    have plain : X2.Sublist r.tail → ∃ C X' : List Int, C.Sublist (X1 ++ X2) ∧ C.Sublist (colOf (r :: l)) ∧ X'.Sublist (X1 ++ X2) ∧ X'.Sublist (readRows ((r :: l).map List.tail)) ∧ (X1 ++ X2).length = C.length + X'.length := fun h3 =>
      ⟨C, Y ++ X2, c1.trans (List.sublist_append_left ..), c2.trans (List.sublist_append_left ..), c3.append (List.Sublist.refl _), c4.append h3, by simp only [List.length_append]; omega⟩
    cases r with
    | nil => exact plain (by simpa using h2)
    | cons a r =>
      cases h2 with
      | cons _ h3 => exact plain h3
      | cons_cons _ h3 =>
        rename_i t
        refine ⟨C ++ [a], Y ++ t, c1.append (by simp), c2.append (by simp), c3.append (by simp), c4.append h3, by simp only [List.length_append, List.length_cons, List.length_nil]; omega⟩
/-- the numbers in the first k rows -/
def firstRows (k : Nat) (l : List (List Int)) : Nat := ((l.take k).map List.length).sum
/-- the numbers in the first k columns -/
def firstCols (k : Nat) (l : List (List Int)) : Nat := (l.map fun r => min k r.length).sum
theorem firstRows_tails : ∀ (k : Nat) (l : List (List Int)), firstRows k (l.map List.tail) ≤ firstRows k l
  | 0, _ => by simp [firstRows]
  | _ + 1, [] => by simp [firstRows]
  | k + 1, r :: l => by
    have := firstRows_tails k l
    simp only [firstRows, List.map_cons, List.take_succ_cons, List.sum_cons, List.length_tail] at this ⊢
    omega
theorem firstRows_col : ∀ (k : Nat) (l : List (List Int)), Tab0 l → min k (colOf l).length + firstRows k (l.map List.tail) ≤ firstRows k l
  | 0, _, _ => by simp [firstRows]
  | _ + 1, [], _ => by simp [firstRows, colOf]
  | k + 1, r :: l, h => by
    cases r with
    | nil =>
      have h0 : colOf l = [] := by
        cases hc : colOf l with
        | nil => rfl
        | cons e t =>
          obtain ⟨a, ha, _⟩ := h.above e (by rw [hc]; simp)
          simp at ha
      have h1 := firstRows_tails (k + 1) ([] :: l)
      simp only [colOf, h0, List.take_nil, List.append_nil, List.length_nil]
      omega
    | cons a r =>
      have := firstRows_col k l h.tail
      simp only [firstRows, List.map_cons, List.take_succ_cons, List.sum_cons, List.length_tail, List.length_cons, colOf, List.take_zero, List.length_append, List.length_nil] at this ⊢
      omega
theorem rises_le : ∀ (n : Nat) (l : List (List Int)), (∀ r ∈ l, r.length ≤ n) → Tab0 l → ∀ (X : List Int) (k : Nat), X.Sublist (readRows l) → Short (fun a b => b < a) k X → X.length ≤ firstRows k l
  | 0, l, hn, ht, X, k, hX, _ => by
    have : readRows l = [] := by
      clear hX ht
      induction l with
      | nil => rfl
      | cons r l ih =>
        have h1 := hn r (by simp)
        obtain rfl : r = [] := List.length_eq_zero_iff.1 (by omega)
        simp only [readRows, List.append_nil]
        exact ih (fun r hr => hn r (List.mem_cons_of_mem _ hr))
    rw [this] at hX
    obtain rfl : X = [] := by simpa using hX
    simp
  | n + 1, l, hn, ht, X, k, hX, hS => by
    obtain ⟨C, Y, c1, c2, c3, c4, c5⟩ := read_split l X hX
    have h1 := hS C c1 ((col_falls ht).sublist c2)
    have h2 := c2.length_le
    have h3 := rises_le n (l.map List.tail) (fun r hr => by
      obtain ⟨q, hq, rfl⟩ := List.mem_map.1 hr
      have := hn q hq
      simp only [List.length_tail]; omega) ht.tails Y k c4 (hS.sub c3)
    have h4 := firstRows_col k l ht
    omega
theorem chain_rows : ∀ (l : List (List Int)), (∀ r ∈ l, Sorted r) → ∀ c : List Int, c.Sublist (readRows l) → c.Pairwise (fun a b => b < a) → c.length ≤ l.length
  | [], _, c, hc, _ => by
    obtain rfl : c = [] := by simpa [readRows] using hc
    simp
  | r :: l, hs, c, hc, hp => by
    obtain ⟨a, b, rfl, ha, hb⟩ := List.sublist_append_iff.1 hc
    obtain ⟨p1, p2, _⟩ := List.pairwise_append.1 hp
    have h1 := chain_rows l (fun r hr => hs r (List.mem_cons_of_mem _ hr)) a ha p1
    have h2 : b.length ≤ 1 := by
      have hs2 := (hs r (by simp)).sublist hb
      match b, p2, hs2 with
      | [], _, _ => simp
      | [_], _, _ => simp
      | x :: y :: _, p, s =>
        have h3 := (List.pairwise_cons.1 p).1 y (by simp)
        have h4 := (List.pairwise_cons.1 s).1 y (by simp)
        omega
    simp only [List.length_append, List.length_cons]; omega
theorem read_append : ∀ a b : List (List Int), readRows (a ++ b) = readRows b ++ readRows a
  | [], b => by simp [readRows]
  | r :: a, b => by simp only [List.cons_append, readRows, read_append a b, List.append_assoc]
theorem read_length : ∀ l : List (List Int), (readRows l).length = (l.map List.length).sum
  | [] => rfl
  | r :: l => by simp only [readRows, List.length_append, read_length l, List.map_cons, List.sum_cons]; omega
theorem rises_ge (l : List (List Int)) (hs : ∀ r ∈ l, Sorted r) (k : Nat) : Fit (fun a b => b < a) k (firstRows k l) (readRows l) := by
  refine ⟨readRows (l.take k), ?_, read_length _, fun c hc hp => ?_⟩
  · have := read_append (l.take k) (l.drop k)
    rw [List.take_append_drop] at this
    rw [this]
    exact List.sublist_append_right ..
  · have := chain_rows (l.take k) (fun r hr => hs r (List.mem_of_mem_take hr)) c hc hp
    have h2 : (l.take k).length ≤ k := by rw [List.length_take]; omega
    omega
theorem falls_le : ∀ (l : List (List Int)), (∀ r ∈ l, Sorted r) → ∀ (X : List Int) (k : Nat), X.Sublist (readRows l) → Short (fun a b => a ≤ b) k X → X.length ≤ firstCols k l
  | [], _, X, k, hX, _ => by
    obtain rfl : X = [] := by simpa [readRows] using hX
    simp
  | r :: l, hs, X, k, hX, hS => by
    obtain ⟨a, b, rfl, ha, hb⟩ := List.sublist_append_iff.1 hX
    have h1 := falls_le l (fun r hr => hs r (List.mem_cons_of_mem _ hr)) a k ha (hS.sub (List.sublist_append_left ..))
    have h2 := hS b (List.sublist_append_right ..) ((hs r (by simp)).sublist hb)
    have h3 := hb.length_le
    simp only [firstCols, List.map_cons, List.sum_cons, List.length_append] at h1 ⊢
    omega
theorem cols_chain : ∀ (k : Nat) (l : List (List Int)), Tab0 l → ∀ c : List Int, c.Sublist (readRows (l.map (List.take k))) → c.Pairwise (fun a b => a ≤ b) → c.length ≤ k
  | 0, l, _, c, hc, _ => by
    have : readRows (l.map (List.take 0)) = [] := by
      clear hc
      induction l with
      | nil => rfl
      | cons r l ih => rename_i h; simp only [List.map_cons, readRows, List.take_zero, List.append_nil]; exact ih h.tail
    rw [this] at hc
    obtain rfl : c = [] := by simpa using hc
    simp
  | k + 1, l, h, c, hc, hp => by
    obtain ⟨C, Y, c1, c2, c3, c4, c5⟩ := read_split _ c hc
    have e1 : colOf (l.map (List.take (k + 1))) = colOf l := by
      clear hc h c1 c2 c3 c4
      induction l with
      | nil => rfl
      | cons r l ih => simp only [List.map_cons, colOf, ih, List.take_take]; rw [Nat.min_eq_left (by omega)]
    have e2 : (l.map (List.take (k + 1))).map List.tail = (l.map List.tail).map (List.take k) := by
      simp only [List.map_map]
      congr 1
      funext r
      cases r <;> simp
    rw [e1] at c2
    rw [e2] at c4
    have h1 := cols_chain k (l.map List.tail) h.tails Y c4 (hp.sublist c3)
    have h2 : C.length ≤ 1 := by
      have p1 := hp.sublist c1
      have p2 := (col_falls h).sublist c2
      match C, p1, p2 with
      | [], _, _ => simp
      | [_], _, _ => simp
      | x :: y :: _, p, s =>
        have h3 := (List.pairwise_cons.1 p).1 y (by simp)
        have h4 := (List.pairwise_cons.1 s).1 y (by simp)
        omega
    omega
theorem falls_ge (l : List (List Int)) (h : Tab0 l) (k : Nat) : Fit (fun a b => a ≤ b) k (firstCols k l) (readRows l) := by
  refine ⟨readRows (l.map (List.take k)), ?_, ?_, fun c hc hp => cols_chain k l h c hc hp⟩
  · clear h
    induction l with
    | nil => exact List.Sublist.refl _
    | cons r l ih => exact ih.append (List.take_sublist ..)
  · rw [read_length, firstCols, List.map_map]
    congr 2
    funext r
    simp
/-- Greene's theorem: the most numbers with no fall longer than k are those in the first k rows. -/
theorem greene_rise (w : List Int) (k : Nat) : Fit (fun a b => b < a) k (firstRows k (insAll w)) w ∧ ∀ n, Fit (fun a b => b < a) k n w → n ≤ firstRows k (insAll w) := by
  have ht := (insAll_tabl w).weak
  refine ⟨(fit_eqv (insAll_eqv w) k _).1.2 (rises_ge _ ht.rows k), fun n hn => ?_⟩
  obtain ⟨X, h1, rfl, h3⟩ := (fit_eqv (insAll_eqv w) k n).1.1 hn
  refine rises_le ((insAll w).map List.length).sum _ (fun r hr => ?_) ht X k h1 h3
  have : ∀ (l : List (List Int)), r ∈ l → r.length ≤ (l.map List.length).sum := by
    intro l
    induction l with
    | nil => simp
    | cons q l ih =>
      intro h
      simp only [List.map_cons, List.sum_cons]
      rcases List.mem_cons.1 h with rfl | h
      · omega
      · have := ih h; omega
  exact this _ hr
/-- The most numbers with no rise longer than k are those in the first k columns. -/
theorem greene_fall (w : List Int) (k : Nat) : Fit (fun a b => a ≤ b) k (firstCols k (insAll w)) w ∧ ∀ n, Fit (fun a b => a ≤ b) k n w → n ≤ firstCols k (insAll w) := by
  have ht := (insAll_tabl w).weak
  refine ⟨(fit_eqv (insAll_eqv w) k _).2.2 (falls_ge _ ht k), fun n hn => ?_⟩
  obtain ⟨X, h1, rfl, h3⟩ := (fit_eqv (insAll_eqv w) k n).2.1 hn
  exact falls_le _ ht.rows X k h1 h3
end
/-! ### Sum -/
theorem impl_sum_ev (l : List Int) (hl : l.length ≤ 1048576) (h : ∀ x ∈ l, 0 ≤ x ∧ x ≤ 1000000) : Ev (fun k => impl_sum.f k l) (isum l) := by
  unfold impl_sum.f
  have key : ∀ i, i ≤ l.length → ∀ s : Int, 0 ≤ s → s ≤ 1000000 * i → Ev (fun k => impl_sum.l0 k s l (l.length : Int) (i : Int)) (s + isum (l.drop i)) := by
    refine downTo l.length ?_ ?_
    · intro s a b
      refine Ev.step (fun k => by rw [impl_sum.l0]) ?_
      exact ev_neg (by omega) (ev_val (by rw [List.drop_length]; simp [isum]))
    · intro i hi ih s a b
      have hx := h _ (rd_mem l i hi)
      refine Ev.step (fun k => by rw [impl_sum.l0]) ?_
      refine ev_pos (by omega) (ev_pos (by omega) (ev_pos (by omega) ?_))
      rw [wrap_succ (by omega), wrap_id (by omega) (by omega)]
      refine ev_eq (ih _ (by omega) (by omega)) ?_
      rw [drop_rd l i hi]
      simp only [isum]; omega
  have := key 0 (by omega) 0 (by omega) (by omega)
  simpa using this
/-! ### Lens -/
def lens (m : List (List Int)) : List Int := m.map fun r => (r.length : Int)
theorem outer_lens (m : List (List Int)) : outerOf [] m = lens m := by
  refine List.ext_getElem (by simp [outerOf, lens]) (fun i h1 h2 => ?_)
  rw [outerOf_length] at h1
  have e := outerOf_rd [] m i h1
  rw [rd_eq _ i (by rw [outerOf_length]; exact h1), at0_out _ _ (.inr (by simp)), rows_nat, List.getD_eq_getElem?_getD, List.getElem?_eq_getElem h1] at e
  rw [e]
  simp [lens]
theorem lens_part : ∀ (m : List (List Int)) (prev s : Int), Tabl m → (∀ r, m.head? = some r → (r.length : Int) ≤ prev) → 0 ≤ s → s + (bulk m : Int) ≤ 9 → partOk prev s (lens m) = true
  | [], _, _, _, _, _, _ => rfl
  | r :: l, prev, s, ht, hp, hs, hb => by
    have h1 := hp r rfl
    have h2 : 1 ≤ r.length := by
      have := ht.head.2
      cases r with
      | nil => exact absurd rfl this
      | cons a r => simp
    simp only [bulk] at hb
    have h3 := lens_part l (r.length : Int) (s + (r.length : Int)) ht.tail (fun q hq => by
      cases l with
      | nil => simp at hq
      | cons q' l =>
        obtain rfl : q' = q := by simpa using hq
        have := ht.next.1
        omega) (by omega) (by omega)
    simp only [lens, List.map_cons, partOk, Bool.and_eq_true, decide_eq_true_eq] at h3 ⊢
    exact ⟨⟨⟨by omega, by omega⟩, by omega⟩, h3⟩
theorem lens_isPart (l : List Int) (h : l.length ≤ 9) : isPartition (lens (insAll l)) = true := by
  have h1 := (insAll_small l).1
  refine lens_part _ 9 0 (insAll_tabl l) (fun r hr => ?_) (by omega) (by omega)
  have := insAll_rows l r (List.mem_of_mem_head? hr)
  omega
theorem shape_ins (l : List Int) (h : l.length ≤ 9) : (shapeOf [] (insAll l)).1 = lens (insAll l) := by
  have h1 := lens_isPart l h
  have h2 : hasShape [] (insAll l) = true := by
    unfold hasShape isInside
    rw [outer_lens, h1]
    simp [isPartition, partOk]
  unfold shapeOf
  rw [if_pos h2, outer_lens]
theorem shapeOfWord_lens {l : List Int} (h : isWord l = true) : shapeOfWord l = lens (insAll l) := by
  rw [shapeOfWord, if_pos h, shape_ins l (isWord_iff.1 h).1]
theorem isum_take_lens : ∀ (K : Nat) (m : List (List Int)), isum ((lens m).take K) = (firstRows K m : Int)
  | 0, m => by simp [isum, firstRows]
  | K + 1, [] => by simp [isum, firstRows, lens]
  | K + 1, r :: l => by
    have := isum_take_lens K l
    simp only [lens, firstRows, List.map_cons, List.take_succ_cons, isum, List.sum_cons] at this ⊢
    rw [this]; omega
theorem first_ev (l : List Int) (K : Nat) (hl : l.length ≤ 1048576) (h : ∀ x ∈ l, 0 ≤ x ∧ x ≤ 1000000) : Ev (fun k => impl_first.f k l (K : Int)) (isum (l.take K)) := by
  have e : (mn (K : Int) (l.length : Int)).toNat = min K l.length := by unfold mn; split <;> omega
  have e2 : mn (K : Int) (l.length : Int) = ((min K l.length : Nat) : Int) := by unfold mn; split <;> omega
  unfold impl_first.f
  rw [e2, Int.toNat_natCast]
  have e3 : l.take (min K l.length) = l.take K := by rw [← List.take_eq_take_min]
  rw [e3]
  refine ev_pos (by omega) (ev_pos (by omega) (Ev.bind (impl_sum_ev (l.take K) (by rw [List.length_take]; omega) (fun x hx => h x (List.mem_of_mem_take hx))) (ev_val rfl)))
theorem lens_bd (l : List Int) (h : l.length ≤ 9) : (lens (insAll l)).length ≤ 1048576 ∧ ∀ x ∈ lens (insAll l), 0 ≤ x ∧ x ≤ 1000000 := by
  obtain ⟨_, g2, g3⟩ := isPartition_bd (lens_isPart l h)
  exact ⟨by omega, fun x hx => by have := g3 x hx; omega⟩
/-! ### Rises -/
def risesT (l : List Int) (a : Int) : Int := if isWord l = true ∧ 0 ≤ a ∧ a ≤ 9 then (firstRows a.toNat (insAll l) : Int) else -1
theorem impl_RisesTogether_ev (l : List Int) (a : Int) : Ev (fun k => impl_RisesTogether.f k l a) (risesT l a) := by
  unfold impl_RisesTogether.f
  refine ev_bindc (impl_IsWord_eq l) (ev_ite (fun h => ?_) (fun h => ?_))
  · refine ev_bindc (impl_within_eq a 0 9) (Ev.step (fun k => by rw [impl_RisesTogether.j0]) ?_)
    by_cases ha : 0 ≤ a ∧ a ≤ 9
    · have h9 := (isWord_iff.1 h).1
      obtain ⟨K, rfl⟩ : ∃ K : Nat, a = (K : Int) := ⟨a.toNat, by omega⟩
      rw [risesT, if_pos ⟨h, ha⟩, Int.toNat_natCast]
      refine ev_neg (by simp [ha]) (Ev.bind (impl_ShapeOfWord_ev l) ?_)
      rw [shapeOfWord_lens h]
      refine Ev.bind (first_ev _ K (lens_bd l h9).1 (lens_bd l h9).2) (ev_val ?_)
      exact isum_take_lens K _
    · refine ev_pos (by simp [ha]) (ev_val ?_)
      rw [risesT, if_neg (fun h => ha h.2)]
  · refine Ev.step (fun k => by rw [impl_RisesTogether.j0]) (ev_pos rfl (ev_val ?_))
    rw [risesT, if_neg (fun h2 => h h2.1)]
/-! ### Longest -/
/-- what stands before what in a chain: with b, no number is less than the one before it; otherwise each is less -/
def Link (b : Bool) (x y : Int) : Prop := (b == decide (x ≤ y)) = true
theorem link_true : Link true = fun x y => x ≤ y := by funext x y; simp [Link]
theorem link_false : Link false = fun x y => y < x := by funext x y; simp [Link]
theorem link_trans (b : Bool) {x y z : Int} (h : Link b x y) (h' : Link b y z) : Link b x z := by
  cases b
  · rw [link_false] at *; exact Int.lt_trans h' h
  · rw [link_true] at *; exact Int.le_trans h h'
/-- the greatest length of the lists that S takes -/
def Most (S : List Int → Prop) (n : Nat) : Prop := (∃ c, S c ∧ c.length = n) ∧ ∀ c, S c → c.length ≤ n
theorem Most.eq {S : List Int → Prop} {n m : Nat} (h : Most S n) (h' : Most S m) : n = m := by
  obtain ⟨⟨c, hc, rfl⟩, h1⟩ := h
  obtain ⟨⟨d, hd, rfl⟩, h2⟩ := h'
  have := h1 d hd
  have := h2 c hc
  omega
/-- chains of the first k numbers -/
def Chains (b : Bool) (w : List Int) (k : Nat) (c : List Int) : Prop := c.Sublist (w.take k) ∧ c.Pairwise (Link b)
/-- chains that end at number k, and go through the first i numbers before -/
def Ends (b : Bool) (w : List Int) (k i : Nat) (c : List Int) : Prop := ∃ d, c = d ++ [rd w (k : Int)] ∧ d.Sublist (w.take i) ∧ c.Pairwise (Link b)
theorem ends_none (b : Bool) (w : List Int) (k : Nat) : Most (Ends b w k 0) 1 := by
  refine ⟨⟨[rd w (k : Int)], ⟨[], rfl, by simp, by simp⟩, rfl⟩, ?_⟩
  rintro c ⟨d, rfl, h1, _⟩
  obtain rfl : d = [] := by simpa using h1
  simp
theorem sub_snoc {d l : List Int} {x : Int} (h : d.Sublist (l ++ [x])) : d.Sublist l ∨ ∃ d', d = d' ++ [x] ∧ d'.Sublist l := by
  obtain ⟨a, e, rfl, ha, he⟩ := List.sublist_append_iff.1 h
  rcases List.sublist_cons_iff.1 he with he | ⟨t, rfl, ht⟩
  · obtain rfl : e = [] := by simpa using he
    rw [List.append_nil]; exact .inl ha
  · obtain rfl : t = [] := by simpa using ht
    exact .inr ⟨a, rfl, ha⟩
theorem ends_step {b : Bool} {w : List Int} {k i n e : Nat} (hi : i < w.length) (h : Most (Ends b w k i) n) (he : Most (Ends b w i i) e) : Most (Ends b w k (i + 1)) (if (b == decide (rd w (i : Int) ≤ rd w (k : Int))) = true then max n (e + 1) else n) := by
  obtain ⟨⟨c0, ⟨d0, rfl, h1, h2⟩, h3⟩, h4⟩ := h
  obtain ⟨⟨c1, ⟨d1, rfl, g1, g2⟩, g3⟩, g4⟩ := he
  have hold : Ends b w k (i + 1) (d0 ++ [rd w (k : Int)]) := ⟨d0, rfl, by rw [take_rd w i hi]; exact h1.trans (List.sublist_append_left ..), h2⟩
  have hup : ∀ c, Ends b w k (i + 1) c → Ends b w k i c ∨ (Link b (rd w (i : Int)) (rd w (k : Int)) ∧ c.length ≤ e + 1) := by
    rintro c ⟨d, rfl, p1, p2⟩
    rw [take_rd w i hi] at p1
    rcases sub_snoc p1 with p3 | ⟨d', rfl, p3⟩
    · exact .inl ⟨d, rfl, p3, p2⟩
    · obtain ⟨q1, _, q2⟩ := List.pairwise_append.1 p2
      have := g4 _ ⟨d', rfl, p3, q1⟩
      exact .inr ⟨q2 _ (by simp) _ (by simp), by simp only [List.length_append, List.length_cons, List.length_nil] at this ⊢; omega⟩
  by_cases hl : (b == decide (rd w (i : Int) ≤ rd w (k : Int))) = true
  · rw [if_pos hl]
    refine ⟨?_, fun c hc => ?_⟩
    · rcases Nat.le_total (e + 1) n with hle | hle
      · exact ⟨_, hold, by omega⟩
      · refine ⟨(d1 ++ [rd w (i : Int)]) ++ [rd w (k : Int)], ⟨_, rfl, by rw [take_rd w i hi]; exact g1.append (List.Sublist.refl _), List.pairwise_append.2 ⟨g2, by simp, fun x hx y hy => ?_⟩⟩, by simp only [List.length_append, List.length_cons, List.length_nil] at g3 ⊢; omega⟩
        obtain rfl : y = rd w (k : Int) := by simpa using hy
        rcases List.mem_append.1 hx with hx | hx
        · exact link_trans b ((List.pairwise_append.1 g2).2.2 x hx _ (by simp)) hl
        · obtain rfl : x = rd w (i : Int) := by simpa using hx
          exact hl
    · rcases hup c hc with h | ⟨_, h⟩
      · have := h4 c h; omega
      · omega
  · rw [if_neg hl]
    refine ⟨⟨_, hold, h3⟩, fun c hc => ?_⟩
    rcases hup c hc with h | ⟨h, _⟩
    · exact h4 c h
    · exact absurd h hl
theorem chains_none (b : Bool) (w : List Int) : Most (Chains b w 0) 0 := by
  refine ⟨⟨[], ⟨by simp, by simp⟩, rfl⟩, ?_⟩
  rintro c ⟨h, _⟩
  obtain rfl : c = [] := by simpa using h
  simp
theorem chains_step {b : Bool} {w : List Int} {k m e : Nat} (hk : k < w.length) (h : Most (Chains b w k) m) (he : Most (Ends b w k k) e) : Most (Chains b w (k + 1)) (max m e) := by
  obtain ⟨⟨c0, ⟨h1, h2⟩, h3⟩, h4⟩ := h
  obtain ⟨⟨c1, ⟨d1, rfl, g1, g2⟩, g3⟩, g4⟩ := he
  refine ⟨?_, ?_⟩
  · rcases Nat.le_total e m with hle | hle
    · exact ⟨c0, ⟨by rw [take_rd w k hk]; exact h1.trans (List.sublist_append_left ..), h2⟩, by omega⟩
    · exact ⟨_, ⟨by rw [take_rd w k hk]; exact g1.append (List.Sublist.refl _), g2⟩, by omega⟩
  · rintro c ⟨p1, p2⟩
    rw [take_rd w k hk] at p1
    rcases sub_snoc p1 with p3 | ⟨d, rfl, p3⟩
    · have := h4 c ⟨p3, p2⟩; omega
    · have := g4 _ ⟨d, rfl, p3, p2⟩; omega
theorem ends_le {b : Bool} {w : List Int} {k i n : Nat} (h : Most (Ends b w k i) n) : n ≤ w.length + 1 := by
  obtain ⟨⟨c, ⟨d, rfl, h1, _⟩, rfl⟩, _⟩ := h
  have := h1.length_le
  rw [List.length_take] at this
  simp only [List.length_append, List.length_cons, List.length_nil]; omega
theorem l1Max_eq (m n : Nat) : spec_l1Max.f (m : Int) (n : Int) = some ((max m n : Nat) : Int) := by
  unfold spec_l1Max.f
  by_cases h : (m : Int) > (n : Int)
  · rw [if_pos h, Nat.max_eq_left (by omega)]
  · rw [if_neg h, Nat.max_eq_right (by omega)]
theorem longest_ev (b : Bool) (w : List Int) (hw : w.length ≤ 1048576) : ∃ M : Nat, Ev (fun k => spec_l11Longest.f k w b) (M : Int) ∧ Most (fun c => c.Sublist w ∧ c.Pairwise (Link b)) M := by
  have main : ∀ (d k : Nat) (far : List Nat) (m : Nat), k + d = w.length → far.length = k → (∀ i (h : i < far.length), Most (Ends b w i i) far[i]) → Most (Chains b w k) m →
      ∃ M : Nat, Ev (fun q => spec_l11Longest.l0 q w b (m : Int) (far.map fun (x : Nat) => (x : Int)) (k : Int)) (M : Int) ∧ Most (Chains b w w.length) M := by
    intro d
    induction d with
    | zero =>
      intro k far m hk hf hE hm
      refine ⟨m, Ev.step (fun q => by rw [spec_l11Longest.l0]) (ev_neg (by omega) (ev_val rfl)), ?_⟩
      obtain rfl : k = w.length := by omega
      exact hm
    | succ d ih =>
      intro k far m hk hf hE hm
      have hkl : k < w.length := by omega
      -- the inner rounds
      have inner : ∀ (d' i n : Nat), i + d' = k → Most (Ends b w k i) n → ∃ M : Nat, Ev (fun q => spec_l11Longest.l1 q w b (m : Int) (far.map fun (x : Nat) => (x : Int)) (k : Int) (n : Int) (i : Int)) (M : Int) ∧ Most (Chains b w w.length) M := by
        intro d'
        induction d' with
        | zero =>
          intro i n hi hn
          obtain rfl : i = k := by omega
          obtain ⟨M, h1, h2⟩ := ih (i + 1) (far ++ [n]) (max m n) (by omega) (by simp [hf]) (fun j hj => by
            rcases Nat.lt_or_ge j far.length with h | h
            · rw [List.getElem_append_left h]; exact hE j h
            · obtain rfl : j = i := by simp at hj; omega
              rw [List.getElem_append_right h]
              simpa [hf] using hn) (chains_step hkl hm hn)
          refine ⟨M, Ev.step (fun q => by rw [spec_l11Longest.l1]) (ev_neg (by omega) (ev_pos (by rw [List.length_map]; omega) (ev_bindc (l1Max_eq m n) ?_))), h2⟩
          rw [wrap_succ (by omega)]
          simpa using h1
        | succ d' ih' =>
          intro i n hi hn
          have hil : i < far.length := by omega
          have hen := ends_le hn
          have hee := ends_le (hE i hil)
          obtain ⟨M, h1, h2⟩ := ih' (i + 1) _ (by omega) (ends_step (by omega) hn (hE i hil))
          refine ⟨M, Ev.step (fun q => by rw [spec_l11Longest.l1]) (ev_pos (by omega) (ev_pos (by omega) (ev_pos (by omega) (ev_pos (by omega) (ev_pos (by omega) (ev_ite (fun hc => ?_) (fun hc => ?_))))))), h2⟩
          · have e1 : rd (far.map fun (x : Nat) => (x : Int)) (i : Int) = (far[i] : Int) := by
              rw [rd_eq _ i (by rw [List.length_map]; exact hil), List.getElem_map]
            rw [e1, wrap_succ (by omega)]
            rw [if_pos hc] at h1
            refine ev_pos (by rw [List.length_map]; omega) (ev_bindc (l1Max_eq n (far[i] + 1)) ?_)
            rw [wrap_succ (by omega)]
            exact h1
          · rw [if_neg hc] at h1
            rw [wrap_succ (by omega)]
            exact h1
      obtain ⟨M, h1, h2⟩ := inner k 0 1 (by omega) (ends_none b w k)
      refine ⟨M, Ev.step (fun q => by rw [spec_l11Longest.l0]) ?_, h2⟩
      exact ev_pos (by omega) h1
  obtain ⟨M, h1, h2⟩ := main w.length 0 [] 0 (by omega) rfl (fun i h => by simp at h) (chains_none b w)
  refine ⟨M, by unfold spec_l11Longest.f; exact h1, ?_⟩
  have e : Chains b w w.length = fun c => c.Sublist w ∧ c.Pairwise (Link b) := by funext c; unfold Chains; rw [List.take_length]
  rw [← e]; exact h2
/-! ### Together -/
/-- the numbers that the bits of s choose -/
def picked (w : List Int) (s : Nat) : Nat → List Int
  | 0 => []
  | i + 1 => picked w s i ++ (if s.testBit i then [rd w (i : Int)] else [])
theorem picked_sub (w : List Int) (s : Nat) : ∀ i, i ≤ w.length → (picked w s i).Sublist (w.take i)
  | 0, _ => by simp [picked]
  | i + 1, h => by
    rw [take_rd w i (by omega)]
    refine (picked_sub w s i (by omega)).append ?_
    split
    · exact List.Sublist.refl _
    · simp
theorem picked_len (w : List Int) (s : Nat) : ∀ i, (picked w s i).length ≤ i
  | 0 => by simp [picked]
  | i + 1 => by
    have := picked_len w s i
    simp only [picked, List.length_append]
    split <;> simp <;> omega
theorem picked_congr (w : List Int) (s t : Nat) : ∀ i, (∀ j, j < i → s.testBit j = t.testBit j) → picked w s i = picked w t i
  | 0, _ => rfl
  | i + 1, h => by simp only [picked, picked_congr w s t i (fun j hj => h j (by omega)), h i (by omega)]
theorem picked_all (w : List Int) : ∀ i, i ≤ w.length → ∀ X : List Int, X.Sublist (w.take i) → ∃ s, s < 2 ^ i ∧ picked w s i = X
  | 0, _, X, h => ⟨0, by simp, by simpa [picked, eq_comm] using h⟩
  | i + 1, hi, X, h => by
    rw [take_rd w i (by omega)] at h
    have hp : (2 : Nat) ^ (i + 1) = 2 ^ i + 2 ^ i := by rw [Nat.pow_succ]; omega
    rcases sub_snoc h with h3 | ⟨d, rfl, h3⟩
    · obtain ⟨s, h1, h2⟩ := picked_all w i (by omega) X h3
      refine ⟨s, by omega, ?_⟩
      simp only [picked, h2, Nat.testBit_lt_two_pow h1]
      simp
    · obtain ⟨s, h1, h2⟩ := picked_all w i (by omega) d h3
      refine ⟨2 ^ i + s, by omega, ?_⟩
      have e1 : picked w (2 ^ i + s) i = picked w s i := picked_congr w _ _ i (fun j hj => Nat.testBit_two_pow_add_gt hj s)
      have e2 : (2 ^ i + s).testBit i = true := by rw [Nat.testBit_two_pow_add_eq, Nat.testBit_lt_two_pow h1]; rfl
      simp only [picked, e1, h2, e2]
      simp
theorem bit_test (s i : Nat) (hs : s < 1024) (hi : i < 16) : (Go.bits .and .i64 (shr .i64 (s : Int) (IntKind.u64.wrap (i : Int))) 1 = 1) ↔ s.testBit i = true := by
  have hw : IntKind.u64.wrap (i : Int) = (i : Int) := by rw [IntKind.wrap_u64]; omega
  have e1 : shr .i64 (s : Int) (i : Int) = ((s / 2 ^ i : Nat) : Int) := by
    unfold shr
    have : min (i : Int).toNat IntKind.i64.bits = i := by
      rw [Int.toNat_natCast]
      exact Nat.min_eq_left (by show i ≤ 64; omega)
    rw [this]
    rw [Int.natCast_ediv]; simp
  have h2 : s / 2 ^ i ≤ s := Nat.div_le_self _ _
  rw [hw, e1, Go.Proofs.and_one _ (by omega), Nat.testBit_eq_decide_div_mod_eq]
  simp only [decide_eq_true_eq]
  omega
theorem short_longest {b : Bool} {X : List Int} {M k : Nat} (h : Most (fun c => c.Sublist X ∧ c.Pairwise (Link b)) M) : Short (Link b) k X ↔ M ≤ k := by
  obtain ⟨⟨c, ⟨h1, h2⟩, rfl⟩, h3⟩ := h
  exact ⟨fun hs => hs c h1 h2, fun hle d hd hp => Nat.le_trans (h3 d ⟨hd, hp⟩) hle⟩
theorem together_ev (b : Bool) (w : List Int) (hw : w.length ≤ 9) (K : Nat) : ∃ M : Nat, Ev (fun k => spec_l11Together.f k w (K : Int) b) (M : Int) ∧ Fit (Link (!b)) K M w ∧ ∀ n, Fit (Link (!b)) K n w → n ≤ M := by
  have hp : (2 : Nat) ^ w.length ≤ 512 := by
    have := Nat.pow_le_pow_right (n := 2) (by omega) hw
    simpa using this
  have hsh : shl .i64 1 (IntKind.u64.wrap ((w.length : Nat) : Int)) = ((2 ^ w.length : Nat) : Int) := by
    have h1 : IntKind.u64.wrap ((w.length : Nat) : Int) = ((w.length : Nat) : Int) := by rw [IntKind.wrap_u64]; omega
    rw [h1]; unfold shl
    have : min ((w.length : Nat) : Int).toNat IntKind.i64.bits = w.length := by
      rw [Int.toNat_natCast]
      exact Nat.min_eq_left (by show w.length ≤ 64; omega)
    rw [this, IntKind.wrap_i64]
    have e : ((2 : Int) ^ w.length) = ((2 ^ w.length : Nat) : Int) := by simp
    rw [Int.one_mul, e]
    generalize (2 ^ w.length : Nat) = p2 at hp ⊢
    omega
  have h0 : (0 : Int) ≤ IntKind.u64.wrap ((w.length : Nat) : Int) := by rw [IntKind.wrap_u64]; omega
  have main : ∀ (d s B : Nat), s + d = 2 ^ w.length → B ≤ 9 → Fit (Link (!b)) K B w → (∀ t, t < s → Short (Link (!b)) K (picked w t w.length) → (picked w t w.length).length ≤ B) →
      ∃ M : Nat, Ev (fun k => spec_l11Together.l0 k w (K : Int) b (B : Int) (s : Int)) (M : Int) ∧ Fit (Link (!b)) K M w ∧ (∀ t, t < 2 ^ w.length → Short (Link (!b)) K (picked w t w.length) → (picked w t w.length).length ≤ M) := by
    intro d
    induction d with
    | zero =>
      intro s B hs hB9 hB hall
      refine ⟨B, Ev.step (fun k => by rw [spec_l11Together.l0]) (ev_pos h0 ?_), hB, fun t ht => hall t (by omega)⟩
      rw [hsh]
      exact ev_neg (by omega) (ev_val rfl)
    | succ d ih =>
      intro s B hs hB9 hB hall
      -- the numbers that s chooses
      obtain ⟨X, hX⟩ : ∃ X, X = picked w s w.length := ⟨_, rfl⟩
      have hXs : X.Sublist w := by rw [hX]; have := picked_sub w s w.length (Nat.le_refl _); rwa [List.take_length] at this
      have hX9 : X.length ≤ 9 := by have := hXs.length_le; omega
      obtain ⟨L, hL1, hL2⟩ := longest_ev (!b) X (by omega)
      have hSL := short_longest (k := K) hL2
      have rest : ∃ M : Nat, Ev (fun k => if (X.length : Int) > (B : Int) then ((spec_l11Longest.f k X (!b)).bind fun t233 => (if t233 ≤ (K : Int) then (spec_l11Together.l0 k w (K : Int) b (X.length : Int) (wrap64 ((s : Int) + 1))) else (spec_l11Together.l0 k w (K : Int) b (B : Int) (wrap64 ((s : Int) + 1))))) else (spec_l11Together.l0 k w (K : Int) b (B : Int) (wrap64 ((s : Int) + 1)))) (M : Int) ∧ Fit (Link (!b)) K M w ∧ (∀ t, t < 2 ^ w.length → Short (Link (!b)) K (picked w t w.length) → (picked w t w.length).length ≤ M) := by
        rw [wrap_succ (by omega)]
        by_cases h1 : X.length > B
        · by_cases h2 : L ≤ K
          · obtain ⟨M, m1, m2⟩ := ih (s + 1) X.length (by omega) hX9 ⟨X, hXs, rfl, hSL.2 h2⟩ (fun t ht hS => by
              rcases Nat.lt_or_ge t s with h | h
              · have := hall t h hS; omega
              · obtain rfl : t = s := by omega
                rw [hX]; exact Nat.le_refl _)
            exact ⟨M, ev_pos (by omega) (Ev.bind hL1 (ev_pos (by omega) m1)), m2⟩
          · obtain ⟨M, m1, m2⟩ := ih (s + 1) B (by omega) hB9 hB (fun t ht hS => by
              rcases Nat.lt_or_ge t s with h | h
              · exact hall t h hS
              · obtain rfl : t = s := by omega
                rw [← hX] at hS; exact absurd (hSL.1 hS) h2)
            exact ⟨M, ev_pos (by omega) (Ev.bind hL1 (ev_neg (by omega) m1)), m2⟩
        · obtain ⟨M, m1, m2⟩ := ih (s + 1) B (by omega) hB9 hB (fun t ht hS => by
            rcases Nat.lt_or_ge t s with h | h
            · exact hall t h hS
            · obtain rfl : t = s := by omega
              rw [← hX]; omega)
          exact ⟨M, ev_neg (by omega) m1, m2⟩
      obtain ⟨M, m1, m2⟩ := rest
      refine ⟨M, Ev.step (fun k => by rw [spec_l11Together.l0]) (ev_pos h0 ?_), m2⟩
      rw [hsh]
      refine ev_pos (by omega) ?_
      -- the inner rounds
      have inner : ∀ (d' i : Nat), i + d' = w.length → Ev (fun k => spec_l11Together.l1 k w (K : Int) b (B : Int) (s : Int) (picked w s i) (i : Int)) (M : Int) := by
        intro d'
        induction d' with
        | zero =>
          intro i hi
          obtain rfl : i = w.length := by omega
          refine Ev.step (fun k => by rw [spec_l11Together.l1]) (ev_neg (by omega) ?_)
          rw [← hX]
          exact m1
        | succ d' ih' =>
          intro i hi
          have hn := ih' (i + 1) (by omega)
          have hlen := picked_len w s i
          refine Ev.step (fun k => by rw [spec_l11Together.l1]) (ev_pos (by omega) (ev_pos (by rw [IntKind.wrap_u64]; omega) ?_))
          rw [wrap_succ (by omega)]
          by_cases ht : s.testBit i = true
          · refine ev_pos ((bit_test s i (by omega) (by omega)).2 ht) (ev_pos (by omega) (ev_pos (by omega) ?_))
            have e : picked w s i ++ [rd w (i : Int)] = picked w s (i + 1) := by simp [picked, ht]
            rw [e]; exact hn
          · refine ev_neg (fun h => ht ((bit_test s i (by omega) (by omega)).1 h)) ?_
            have e : picked w s i = picked w s (i + 1) := by simp [picked, ht]
            rw [e]; exact hn
      exact inner w.length 0 (by omega)
  obtain ⟨M, h1, h2, h3⟩ := main (2 ^ w.length) 0 0 (by omega) (by omega) ⟨[], by simp, rfl, fun c hc _ => by have := hc.length_le; simp at this; simp [this]⟩ (fun t ht => by omega)
  refine ⟨M, by unfold spec_l11Together.f; exact h1, h2, ?_⟩
  rintro n ⟨X, hX, rfl, hS⟩
  obtain ⟨s, hs1, rfl⟩ := picked_all w w.length (Nat.le_refl _) X (by rw [List.take_length]; exact hX)
  exact h3 s hs1 hS
/-! ### RisesSpec -/
theorem spec_RisesTogether_ev (l : List Int) (a : Int) (hl : l.length ≤ 1048576) : Ev (fun k => spec_RisesTogether.f k l a) (risesT l a) := by
  unfold spec_RisesTogether.f
  refine Ev.bind (spec_IsWord_ev l hl) (ev_ite (fun h => ?_) (fun h => ev_val ?_))
  · refine ev_bindc (spec_l1In_eq a 0 9) (ev_ite (fun ha => ?_) (fun ha => ev_val ?_))
    · have ha : 0 ≤ a ∧ a ≤ 9 := by simpa using ha
      have h9 := (isWord_iff.1 h).1
      obtain ⟨K, rfl⟩ : ∃ K : Nat, a = (K : Int) := ⟨a.toNat, by omega⟩
      rw [risesT, if_pos ⟨h, ha⟩, Int.toNat_natCast]
      obtain ⟨M, h1, h2, h3⟩ := together_ev true l h9 K
      rw [show (!true) = false from rfl, link_false] at h2 h3
      obtain ⟨g1, g2⟩ := greene_rise l K
      have e : M = firstRows K (insAll l) := Nat.le_antisymm (g2 M h2) (h3 _ g1)
      rw [← e]
      exact Ev.bind h1 (ev_val rfl)
    · have ha : ¬ (0 ≤ a ∧ a ≤ 9) := by simpa using ha
      rw [risesT, if_neg (fun h => ha h.2)]
  · rw [risesT, if_neg (fun h2 => h h2.1)]
/-! ### Conj -/
/-- how many numbers are above c -/
def colN (p : List Int) (c : Int) : Nat := (p.filter (fun n => decide (c < n))).length
theorem column_ev (p : List Int) (c : Int) (hp : p.length ≤ 1048576) : Ev (fun k => impl_column.f k p c) (colN p c : Int) := by
  have key : ∀ i, i ≤ p.length → ∀ a : Nat, a ≤ i → Ev (fun k => impl_column.l0 k c (a : Int) p (p.length : Int) (i : Int)) ((a + colN (p.drop i) c : Nat) : Int) := by
    refine downTo p.length ?_ ?_
    · intro a _
      refine Ev.step (fun k => by rw [impl_column.l0]) (ev_neg (by omega) (ev_val ?_))
      simp [colN]
    · intro i hi ih a ha
      refine Ev.step (fun k => by rw [impl_column.l0]) (ev_pos (by omega) (ev_pos (by omega) (ev_pos (by omega) (ev_ite (fun h => ?_) (fun h => ?_)))))
      · rw [wrap_succ (by omega), wrap_succ (by omega)]
        refine ev_eq (ih (a + 1) (by omega)) ?_
        rw [drop_rd p i hi]
        simp only [colN, List.filter_cons]
        rw [if_pos (by simpa using h)]
        simp only [List.length_cons]
        congr 1; omega
      · rw [wrap_succ (by omega)]
        refine ev_eq (ih a (by omega)) ?_
        rw [drop_rd p i hi]
        simp only [colN, List.filter_cons]
        rw [if_neg (by simpa using h)]
  have := key 0 (by omega) 0 (by omega)
  unfold impl_column.f
  simpa using this
theorem part_prev : ∀ (l : List Int) (prev s : Int), partOk prev s l = true → ∀ x ∈ l, x ≤ prev
  | [], _, _, _ => by simp
  | y :: l, prev, s, h => by
    simp only [partOk, Bool.and_eq_true, decide_eq_true_eq] at h
    intro x hx
    rcases List.mem_cons.1 hx with rfl | hx
    · exact h.1.1.2
    · have := part_prev l y _ h.2 x hx
      omega
theorem part_first {p : List Int} (h : isPartition p = true) : ∀ x ∈ p, x ≤ rd p 0 := by
  cases p with
  | nil => simp
  | cons y l =>
    have h2 : partOk 9 0 (y :: l) = true := h
    simp only [partOk, Bool.and_eq_true, decide_eq_true_eq] at h2
    intro x hx
    have e : rd (y :: l) 0 = y := rfl
    rw [e]
    rcases List.mem_cons.1 hx with rfl | hx
    · exact Int.le_refl _
    · exact part_prev l y _ h2.2 x hx
def conj (p : List Int) : List Int := (List.range (rd p 0).toNat).map fun (j : Nat) => (colN p (j : Int) : Int)
theorem colN_pos {p : List Int} (h : isPartition p = true) (j : Nat) : 0 < colN p (j : Int) ↔ j < (rd p 0).toNat := by
  unfold colN
  rw [List.length_pos_iff_exists_mem]
  constructor
  · rintro ⟨x, hx⟩
    obtain ⟨h1, h2⟩ := List.mem_filter.1 hx
    have := part_first h x h1
    have h2 : (j : Int) < x := by simpa using h2
    omega
  · intro hj
    cases p with
    | nil => simp [rd] at hj
    | cons y l =>
      have e : rd (y :: l) 0 = y := rfl
      rw [e] at hj
      exact ⟨y, List.mem_filter.2 ⟨by simp, by simp; omega⟩⟩
theorem conjugate_ev (p : List Int) (h : isPartition p = true) : Ev (fun k => impl_Conjugate.f k p) (conj p) := by
  obtain ⟨_, g2, g3⟩ := isPartition_bd h
  have h0 : (rd p 0).toNat ≤ 9 := by
    cases p with
    | nil => simp [rd]
    | cons y l => have := g3 y (by simp); have e : rd (y :: l) 0 = y := rfl; rw [e]; omega
  unfold impl_Conjugate.f
  refine Ev.bind (impl_IsPartition_ev p (by omega)) ?_
  rw [h]
  refine ev_pos rfl ?_
  refine downTo (P := fun j => Ev (fun k => impl_Conjugate.l0 k p ((List.range j).map fun (j : Nat) => (colN p (j : Int) : Int)) (j : Int)) (conj p)) (rd p 0).toNat ?_ ?_ 0 (by omega)
  · refine Ev.step (fun k => by rw [impl_Conjugate.l0]) (Ev.bind (column_ev p _ (by omega)) (ev_neg ?_ (ev_val rfl)))
    have := colN_pos h (rd p 0).toNat
    omega
  · intro j hj hn
    have := (colN_pos h j).2 hj
    refine Ev.step (fun k => by rw [impl_Conjugate.l0]) (Ev.bind (column_ev p (j : Int) (by omega)) (ev_pos (show (colN p (j : Int) : Int) > 0 by omega) (Ev.bind (column_ev p (j : Int) (by omega)) (ev_pos (show ((List.range j).map fun (j : Nat) => (colN p (j : Int) : Int)).length < 17592186044416 by rw [List.length_map, List.length_range]; omega) ?_))))
    rw [wrap_succ (by omega)]
    have e : ((List.range j).map fun (j : Nat) => (colN p (j : Int) : Int)) ++ [(colN p (j : Int) : Int)] = (List.range (j + 1)).map fun (j : Nat) => (colN p (j : Int) : Int) := by simp [List.range_succ]
    rw [e]
    exact hn
theorem isum_snoc (l : List Int) (x : Int) : isum (l ++ [x]) = isum l + x := by
  induction l with
  | nil => simp [isum]
  | cons y l ih => simp only [List.cons_append, isum, ih]; omega
theorem firstCols_succ (J : Nat) : ∀ m : List (List Int), firstCols (J + 1) m = firstCols J m + colN (lens m) (J : Int)
  | [] => by simp [firstCols, colN, lens]
  | r :: l => by
    have := firstCols_succ J l
    simp only [firstCols, colN, lens, List.map_cons, List.sum_cons, List.filter_cons] at this ⊢
    by_cases h : J < r.length
    · rw [if_pos (by simpa using h), List.length_cons]; omega
    · rw [if_neg (by simpa using h)]; omega
theorem isum_cols (m : List (List Int)) : ∀ J : Nat, isum ((List.range J).map fun (j : Nat) => (colN (lens m) (j : Int) : Int)) = (firstCols J m : Int)
  | 0 => by
    have : ∀ m : List (List Int), firstCols 0 m = 0 := fun m => by
      induction m with
      | nil => rfl
      | cons r l ih => simp only [firstCols, List.map_cons, List.sum_cons] at ih ⊢; omega
    rw [this]; rfl
  | J + 1 => by
    rw [List.range_succ, List.map_append, List.map_singleton, isum_snoc, isum_cols m J, firstCols_succ]
    omega
theorem firstCols_cut (m : List (List Int)) (h K : Nat) (hm : ∀ r ∈ m, r.length ≤ h) : firstCols (min K h) m = firstCols K m := by
  unfold firstCols
  congr 1
  refine List.map_congr_left (fun r hr => ?_)
  have := hm r hr
  omega
theorem isum_conj (m : List (List Int)) (h : isPartition (lens m) = true) (K : Nat) : isum ((conj (lens m)).take K) = (firstCols K m : Int) := by
  unfold conj
  rw [← List.map_take, List.take_range, isum_cols, firstCols_cut]
  intro r hr
  have := part_first h (r.length : Int) (List.mem_map.2 ⟨r, hr, rfl⟩)
  omega
theorem conj_bd {p : List Int} (h : isPartition p = true) : (conj p).length ≤ 9 ∧ ∀ x ∈ conj p, 0 ≤ x ∧ x ≤ 1000000 := by
  obtain ⟨_, g2, g3⟩ := isPartition_bd h
  have h0 : (rd p 0).toNat ≤ 9 := by
    cases p with
    | nil => simp [rd]
    | cons y l => have := g3 y (by simp); have e : rd (y :: l) 0 = y := rfl; rw [e]; omega
  refine ⟨by simpa [conj] using h0, fun x hx => ?_⟩
  obtain ⟨j, _, rfl⟩ := List.mem_map.1 hx
  have : colN p (j : Int) ≤ p.length := List.length_filter_le ..
  omega
/-! ### Falls -/
def fallsT (l : List Int) (a : Int) : Int := if isWord l = true ∧ 0 ≤ a ∧ a ≤ 9 then (firstCols a.toNat (insAll l) : Int) else -1
theorem impl_FallsTogether_ev (l : List Int) (a : Int) : Ev (fun k => impl_FallsTogether.f k l a) (fallsT l a) := by
  unfold impl_FallsTogether.f
  refine ev_bindc (impl_IsWord_eq l) (ev_ite (fun h => ?_) (fun h => ?_))
  · refine ev_bindc (impl_within_eq a 0 9) (Ev.step (fun k => by rw [impl_FallsTogether.j0]) ?_)
    by_cases ha : 0 ≤ a ∧ a ≤ 9
    · have h9 := (isWord_iff.1 h).1
      have hp := lens_isPart l h9
      obtain ⟨K, rfl⟩ : ∃ K : Nat, a = (K : Int) := ⟨a.toNat, by omega⟩
      rw [fallsT, if_pos ⟨h, ha⟩, Int.toNat_natCast]
      refine ev_neg (by simp [ha]) (Ev.bind (impl_ShapeOfWord_ev l) ?_)
      rw [shapeOfWord_lens h]
      refine Ev.bind (conjugate_ev _ hp) (Ev.bind (first_ev _ K (by have := (conj_bd hp).1; omega) (conj_bd hp).2) (ev_val ?_))
      exact isum_conj _ hp K
    · refine ev_pos (by simp [ha]) (ev_val ?_)
      rw [fallsT, if_neg (fun h => ha h.2)]
  · refine Ev.step (fun k => by rw [impl_FallsTogether.j0]) (ev_pos rfl (ev_val ?_))
    rw [fallsT, if_neg (fun h2 => h h2.1)]
/-! ### FallsSpec -/
theorem spec_FallsTogether_ev (l : List Int) (a : Int) (hl : l.length ≤ 1048576) : Ev (fun k => spec_FallsTogether.f k l a) (fallsT l a) := by
  unfold spec_FallsTogether.f
  refine Ev.bind (spec_IsWord_ev l hl) (ev_ite (fun h => ?_) (fun h => ev_val ?_))
  · refine ev_bindc (spec_l1In_eq a 0 9) (ev_ite (fun ha => ?_) (fun ha => ev_val ?_))
    · have ha : 0 ≤ a ∧ a ≤ 9 := by simpa using ha
      have h9 := (isWord_iff.1 h).1
      obtain ⟨K, rfl⟩ : ∃ K : Nat, a = (K : Int) := ⟨a.toNat, by omega⟩
      rw [fallsT, if_pos ⟨h, ha⟩, Int.toNat_natCast]
      obtain ⟨M, h1, h2, h3⟩ := together_ev false l h9 K
      rw [show (!false) = true from rfl, link_true] at h2 h3
      obtain ⟨g1, g2⟩ := greene_fall l K
      have e : M = firstCols K (insAll l) := Nat.le_antisymm (g2 M h2) (h3 _ g1)
      rw [← e]
      exact Ev.bind h1 (ev_val rfl)
    · have ha : ¬ (0 ≤ a ∧ a ≤ 9) := by simpa using ha
      rw [fallsT, if_neg (fun h => ha h.2)]
  · rw [fallsT, if_neg (fun h2 => h h2.1)]
/-! ### LongestOne -/
theorem link_not (b : Bool) (x y : Int) : Link (!b) x y ↔ ¬ Link b x y := by
  unfold Link
  cases b <;> cases decide (x ≤ y) <;> simp
theorem short_one (b : Bool) (X : List Int) : Short (Link (!b)) 1 X ↔ X.Pairwise (Link b) := by
  constructor
  · intro h
    refine List.pairwise_iff_forall_sublist.2 (fun {x y} hs => ?_)
    by_cases hl : Link b x y
    · exact hl
    · have := h [x, y] hs (by simp [(link_not b x y).2 hl])
      simp at this
  · intro h c hc hp
    have hq := h.sublist hc
    match c, hp, hq with
    | [], _, _ => simp
    | [_], _, _ => simp
    | x :: y :: _, p, q =>
      have h1 := (List.pairwise_cons.1 p).1 y (by simp)
      have h2 := (List.pairwise_cons.1 q).1 y (by simp)
      exact absurd h2 ((link_not b x y).1 h1)
theorem longest_fit {b : Bool} {w : List Int} {M : Nat} (h : Most (fun c => c.Sublist w ∧ c.Pairwise (Link b)) M) : Fit (Link (!b)) 1 M w ∧ ∀ n, Fit (Link (!b)) 1 n w → n ≤ M := by
  obtain ⟨⟨c, ⟨h1, h2⟩, rfl⟩, h3⟩ := h
  refine ⟨⟨c, h1, rfl, (short_one b c).2 h2⟩, ?_⟩
  rintro n ⟨X, hX, rfl, hS⟩
  exact h3 X ⟨hX, (short_one b X).1 hS⟩
theorem longest_rise {w : List Int} {M : Nat} (h : Most (fun c => c.Sublist w ∧ c.Pairwise (Link true)) M) : M = firstRows 1 (insAll w) := by
  obtain ⟨h2, h3⟩ := longest_fit h
  rw [show (!true) = false from rfl, link_false] at h2 h3
  obtain ⟨g1, g2⟩ := greene_rise w 1
  exact Nat.le_antisymm (g2 M h2) (h3 _ g1)
theorem longest_fall {w : List Int} {M : Nat} (h : Most (fun c => c.Sublist w ∧ c.Pairwise (Link false)) M) : M = firstCols 1 (insAll w) := by
  obtain ⟨h2, h3⟩ := longest_fit h
  rw [show (!false) = true from rfl, link_true] at h2 h3
  obtain ⟨g1, g2⟩ := greene_fall w 1
  exact Nat.le_antisymm (g2 M h2) (h3 _ g1)
/-! ### LongestRise -/
theorem impl_LongestRise_ev (l : List Int) : Ev (fun k => impl_LongestRise.f k l) (risesT l 1) := by
  unfold impl_LongestRise.f
  exact Ev.bind (impl_RisesTogether_ev l 1) (ev_val rfl)
theorem spec_LongestRise_ev (l : List Int) (hl : l.length ≤ 1048576) : Ev (fun k => spec_LongestRise.f k l) (risesT l 1) := by
  unfold spec_LongestRise.f
  refine Ev.bind (spec_IsWord_ev l hl) (ev_ite (fun h => ?_) (fun h => ev_val ?_))
  · obtain ⟨M, h1, h2⟩ := longest_ev true l hl
    refine Ev.bind h1 (ev_val ?_)
    rw [longest_rise h2, risesT, if_pos ⟨h, by omega, by omega⟩]
    rfl
  · rw [risesT, if_neg (fun h2 => h h2.1)]
/-! ### LongestFall -/
theorem impl_LongestFall_ev (l : List Int) : Ev (fun k => impl_LongestFall.f k l) (fallsT l 1) := by
  unfold impl_LongestFall.f
  exact Ev.bind (impl_FallsTogether_ev l 1) (ev_val rfl)
theorem spec_LongestFall_ev (l : List Int) (hl : l.length ≤ 1048576) : Ev (fun k => spec_LongestFall.f k l) (fallsT l 1) := by
  unfold spec_LongestFall.f
  refine Ev.bind (spec_IsWord_ev l hl) (ev_ite (fun h => ?_) (fun h => ev_val ?_))
  · obtain ⟨M, h1, h2⟩ := longest_ev false l hl
    refine Ev.bind h1 (ev_val ?_)
    rw [longest_fall h2, fallsT, if_pos ⟨h, by omega, by omega⟩]
    rfl
  · rw [fallsT, if_neg (fun h2 => h h2.1)]
/-! ### SpecConj -/
theorem spec_Conjugate_ev (p : List Int) (h : isPartition p = true) : Ev (fun k => spec_Conjugate.f k p) (conj p) := by
  obtain ⟨_, g2, g3⟩ := isPartition_bd h
  have h9 : 0 ≤ rd p 0 ∧ rd p 0 ≤ 9 := by
    cases p with
    | nil => simp [rd]
    | cons y l => have := g3 y (by simp); have e : rd (y :: l) 0 = y := rfl; rw [e]; omega
  have count : ∀ (c : Nat) (out : List Int) (R : List Int) (hn : Ev (fun k => spec_l2Turn.l0 k p (out ++ [(colN p (c : Int) : Int)]) ((c + 1 : Nat) : Int)) R), c ≤ 9 → out.length ≤ 9 → Ev (fun k => spec_l2Turn.l1 k p out (c : Int) 0 0) R := by
    intro c out R hn hc ho
    have key : ∀ i, i ≤ p.length → ∀ a : Nat, a ≤ i → a + colN (p.drop i) (c : Int) = colN p (c : Int) → Ev (fun k => spec_l2Turn.l1 k p out (c : Int) (a : Int) (i : Int)) R := by
      refine downTo p.length ?_ ?_
      · intro a _ e
        have e2 : a = colN p (c : Int) := by simpa [colN] using e
        refine Ev.step (fun k => by rw [spec_l2Turn.l1]) (ev_neg (by omega) (ev_pos (by omega) ?_))
        rw [wrap_succ (by omega), e2]
        exact hn
      · intro i hi ih a ha e
        refine Ev.step (fun k => by rw [spec_l2Turn.l1]) (ev_pos (by omega) (ev_pos (by omega) (ev_bindc (l1Bit_dec _) ?_)))
        rw [wrap_succ (by omega)]
        rw [drop_rd p i hi] at e
        simp only [colN, List.filter_cons] at e
        by_cases hx : (c : Int) < rd p (i : Int)
        · rw [if_pos (by simpa using hx), List.length_cons] at e
          rw [if_pos (show rd p (i : Int) > (c : Int) from hx), wrap_succ (by omega)]
          exact ih (a + 1) (by omega) (by simp only [colN] at e ⊢; omega)
        · rw [if_neg (by simpa using hx)] at e
          rw [if_neg (show ¬ rd p (i : Int) > (c : Int) from hx), Int.add_zero, wrap_nat (by omega)]
          exact ih a (by omega) e
    exact key 0 (by omega) 0 (by omega) (by simp)
  unfold spec_Conjugate.f
  refine Ev.bind (spec_IsPartition_ev p (by omega)) ?_
  rw [h]
  refine ev_pos rfl (Ev.bind (a := conj p) ?_ (ev_val rfl))
  unfold spec_l2Turn.f
  refine downTo (P := fun j => Ev (fun k => spec_l2Turn.l0 k p ((List.range j).map fun (j : Nat) => (colN p (j : Int) : Int)) (j : Int)) (conj p)) (rd p 0).toNat ?_ ?_ 0 (by omega)
  · refine Ev.step (fun k => by rw [spec_l2Turn.l0]) (ev_ite (fun hp => ?_) (fun hp => ?_))
    · refine ev_pos (by omega) ?_
      refine Ev.step (fun k => by rw [spec_l2Turn.j1]) ?_
      refine ev_neg ?_ (ev_val rfl)
      simp only [decide_eq_true_eq]
      omega
    · refine Ev.step (fun k => by rw [spec_l2Turn.j1]) ?_
      exact ev_neg (by decide) (ev_val rfl)
  · intro j hj hn
    have hp : 0 < p.length := by
      cases p with
      | nil => simp [rd] at hj
      | cons y l => simp
    have e : ((List.range j).map fun (j : Nat) => (colN p (j : Int) : Int)) ++ [(colN p (j : Int) : Int)] = (List.range (j + 1)).map fun (j : Nat) => (colN p (j : Int) : Int) := by simp [List.range_succ]
    refine Ev.step (fun k => by rw [spec_l2Turn.l0]) (ev_pos (by omega) (ev_pos (by omega) ?_))
    refine Ev.step (fun k => by rw [spec_l2Turn.j1]) ?_
    refine ev_pos (decide_eq_true (show (j : Int) < rd p 0 by omega)) ?_
    refine count j _ _ ?_ (by omega) (by simp; omega)
    rw [e]
    exact hn
end Go.Proofs.Ytfijlemaiiobaaa.Q
