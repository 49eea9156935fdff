/- Plain Lean: what the printed functions compute, topic by topic; conditions: those that each theorem names. -/
import Derived.Test.YtljjjdgnpnnmoaaF0
import Derived.Test.YtljjjdgnpnnmoaaF12
import Derived.Test.YtljjjdgnpnnmoaaF11
import Derived.Test.YtljjjdgnpnnmoaaF2
import Derived.Test.YtljjjdgnpnnmoaaF8
import Derived.Test.YtljjjdgnpnnmoaaF3
import Derived.Test.YtljjjdgnpnnmoaaF4
import Derived.Test.YtljjjdgnpnnmoaaF9
import Derived.Test.YtljjjdgnpnnmoaaF10
import Derived.Test.YtljjjdgnpnnmoaaF5
import Derived.Test.YtljjjdgnpnnmoaaF6
import Derived.Test.YtljjjdgnpnnmoaaF7
import Derived.Test.YtljjjdgnpnnmoaaF1
import Derived.Deep.Matrix
import Derived.Lib.SmallJoins
import Derived.ProofKit
import Derived.OpenShut
import Derived.ChangeSlices
set_option linter.unusedVariables false
set_option linter.unusedSimpArgs false
namespace Go.Proofs.Ytljjjdgnpnnmoaa.Q
open Go.RowKit Go.Proofs.Ytljjjdgnpnnmoaa.F Go.Proofs.YtljjjdgnpnnmoaaW.PrintWords Go.Proofs.YtljjjdgnpnnmoaaW.PrintLast Go.Proofs.YtljjjdgnpnnmoaaW.PrintMore
section
variable {α β : Type} {r : α}
theorem ev_pos {c : Prop} [Decidable c] {A B : Nat → Option α} (h : c) (hA : Ev A r) : Ev (fun k => if c then A k else B k) r := by
  simp only [if_pos h]; exact hA
theorem ev_neg {c : Prop} [Decidable c] {A B : Nat → Option α} (h : ¬ c) (hB : Ev B r) : Ev (fun k => if c then A k else B k) r := by
  simp only [if_neg h]; exact hB
theorem ev_ite {c : Prop} [Decidable c] {A B : Nat → Option α} (hA : c → Ev A r) (hB : ¬ c → Ev B r) : Ev (fun k => if c then A k else B k) r := by
  by_cases h : c
  · exact ev_pos h (hA h)
  · exact ev_neg h (hB h)
theorem ev_bindc {o : Option β} {b : β} {f : Nat → β → Option α} (h : o = some b) (hf : Ev (fun k => f k b) r) : Ev (fun k => o.bind (f k)) r := by
  subst h; exact hf
theorem ev_val {a : α} (h : a = r) : Ev (fun _ => some a) r := by subst h; exact ⟨0, fun _ _ => rfl⟩
theorem ev_eq {g : Nat → Option α} {a : α} (h : Ev g a) (e : a = r) : Ev g r := e ▸ h
end
theorem wrap_succ {n : Nat} (h : n < 9223372036854775807) : wrap64 ((n : Int) + 1) = ((n + 1 : Nat) : Int) := by unfold wrap64; omega
theorem wrap_id {i : Int} (h0 : -9223372036854775808 ≤ i) (h : i ≤ 9223372036854775807) : wrap64 i = i := by unfold wrap64; omega
theorem rd_nat (l : List Int) (i : Nat) : rd l (i : Int) = l.getD i 0 := by unfold rd; simp
theorem rd_eq (l : List Int) (i : Nat) (h : i < l.length) : rd l (i : Int) = l[i] := by rw [rd_nat]; simp [h]
theorem drop_rd (l : List Int) (i : Nat) (h : i < l.length) : l.drop i = rd l (i : Int) :: l.drop (i + 1) := by
  rw [rd_eq l i h]; exact List.drop_eq_getElem_cons h
theorem take_rd (l : List Int) (i : Nat) (h : i < l.length) : l.take (i + 1) = l.take i ++ [rd l (i : Int)] := by
  rw [rd_eq l i h]; exact List.take_succ_eq_append_getElem h
theorem rd_mem (l : List Int) (i : Nat) (h : i < l.length) : rd l (i : Int) ∈ l := by rw [rd_eq l i h]; exact List.getElem_mem h
theorem downTo {P : Nat → Prop} (n : Nat) (h0 : P n) (hs : ∀ i, i < n → P (i + 1) → P i) : ∀ i, i ≤ n → P i := by
  intro i hi
  obtain ⟨d, rfl⟩ : ∃ d, n = i + d := ⟨n - i, by omega⟩
  clear hi
  induction d generalizing i with
  | zero => simpa using h0
  | succ d ih => exact hs i (by omega) (ih (i + 1) (by rwa [show i + 1 + d = i + (d + 1) by omega]) (fun j hj => hs j (by omega)))
end Go.Proofs.Ytljjjdgnpnnmoaa.Q

set_option linter.unusedVariables false
set_option linter.unusedSimpArgs false
namespace Go.Proofs.Ytljjjdgnpnnmoaa.Q
open Go.RowKit Go.Proofs.Ytljjjdgnpnnmoaa.F Go.Proofs.YtljjjdgnpnnmoaaW.PrintWords Go.Proofs.YtljjjdgnpnnmoaaW.PrintLast Go.Proofs.YtljjjdgnpnnmoaaW.PrintMore
end Go.Proofs.Ytljjjdgnpnnmoaa.Q

set_option linter.unusedVariables false
set_option linter.unusedSimpArgs false
namespace Go.Proofs.Ytljjjdgnpnnmoaa.Q
open Go.RowKit Go.Proofs.Ytljjjdgnpnnmoaa.F Go.Proofs.YtljjjdgnpnnmoaaW.PrintWords Go.Proofs.YtljjjdgnpnnmoaaW.PrintLast Go.Proofs.YtljjjdgnpnnmoaaW.PrintMore
theorem rows_nat (l : List (List Int)) (i : Nat) : rd_L1 l (i : Int) = l.getD i [] := by unfold rd_L1; simp
theorem rows_eq (l : List (List Int)) (i : Nat) (h : i < l.length) : rd_L1 l (i : Int) = l[i] := by rw [rows_nat]; simp [h]
theorem drop_rows (l : List (List Int)) (i : Nat) (h : i < l.length) : l.drop i = rd_L1 l (i : Int) :: l.drop (i + 1) := by
  rw [rows_eq l i h]; exact List.drop_eq_getElem_cons h
theorem take_rows (l : List (List Int)) (i : Nat) (h : i < l.length) : l.take (i + 1) = l.take i ++ [rd_L1 l (i : Int)] := by
  rw [rows_eq l i h]; exact List.take_succ_eq_append_getElem h
theorem rows_mem (l : List (List Int)) (i : Nat) (h : i < l.length) : rd_L1 l (i : Int) ∈ l := by rw [rows_eq l i h]; exact List.getElem_mem h
def isum : List Int → Int
  | [] => 0
  | x :: l => x + isum l
def bulk : List (List Int) → Nat
  | [] => 0
  | r :: m => r.length + bulk m
theorem bulk_mem {m : List (List Int)} {r : List Int} (h : r ∈ m) : r.length ≤ bulk m := by
  induction m with
  | nil => simp at h
  | cons q m ih =>
    unfold bulk
    rcases List.mem_cons.1 h with rfl | h
    · omega
    · have := ih h; omega
end Go.Proofs.Ytljjjdgnpnnmoaa.Q

set_option linter.unusedVariables false
set_option linter.unusedSimpArgs false
namespace Go.Proofs.Ytljjjdgnpnnmoaa.Q
open Go.RowKit Go.Proofs.Ytljjjdgnpnnmoaa.F Go.Proofs.YtljjjdgnpnnmoaaW.PrintWords Go.Proofs.YtljjjdgnpnnmoaaW.PrintLast Go.Proofs.YtljjjdgnpnnmoaaW.PrintMore
def addRow : List (List Int) → List Int → List (List Int)
  | C, [] => C
  | [], n :: r => [n] :: addRow [] r
  | c :: C, n :: r => (c ++ [n]) :: addRow C r
def cols (m : List (List Int)) : List (List Int) := m.foldl addRow []
def at2 (m : List (List Int)) (i j : Nat) : Option Int := (m[i]?).bind (fun r => r[j]?)
theorem addRow_nil (C : List (List Int)) : addRow C [] = C := by cases C <;> rfl
theorem addRow_get : ∀ (C : List (List Int)) (r : List Int) (i : Nat), (addRow C r)[i]? = match r[i]? with | some n => some ((C[i]?).getD [] ++ [n]) | none => C[i]?
  | C, [], i => by rw [addRow_nil]; simp
  | [], n :: r, 0 => by simp [addRow]
  | [], n :: r, i + 1 => by
    have := addRow_get [] r i
    simpa [addRow] using this
  | c :: C, n :: r, 0 => by simp [addRow]
  | c :: C, n :: r, i + 1 => by
    have := addRow_get C r i
    simpa [addRow] using this
theorem addRow_length : ∀ (C : List (List Int)) (r : List Int), (addRow C r).length = max C.length r.length
  | C, [] => by rw [addRow_nil]; simp
  | [], n :: r => by
    have := addRow_length [] r
    simp only [addRow, List.length_cons, this, List.length_nil]
    omega
  | c :: C, n :: r => by
    have := addRow_length C r
    simp only [addRow, List.length_cons, this]
    omega
theorem addRow_mem : ∀ (C : List (List Int)) (r : List Int) (b : Nat), (∀ c ∈ C, c.length ≤ b) → ∀ c ∈ addRow C r, c ≠ [] ∧ c.length ≤ b + 1 ∨ c ∈ C
  | C, [], b, h => fun c hc => by rw [addRow_nil] at hc; exact .inr hc
  | [], n :: r, b, h => fun c hc => by
    simp only [addRow, List.mem_cons] at hc
    rcases hc with rfl | hc
    · exact .inl ⟨by simp, by simp⟩
    · exact addRow_mem [] r b (by simp) c hc
  | d :: C, n :: r, b, h => fun c hc => by
    simp only [addRow, List.mem_cons] at hc
    rcases hc with rfl | hc
    · have := h d (by simp)
      exact .inl ⟨by simp, by simp; omega⟩
    · rcases addRow_mem C r b (fun c hc => h c (by simp [hc])) c hc with h1 | h1
      · exact .inl h1
      · exact .inr (by simp [h1])
def putCol (C : List (List Int)) (i : Nat) (n : Int) : List (List Int) := (if i = C.length then C ++ [[]] else C).set i ((if i = C.length then C ++ [[]] else C).getD i [] ++ [n])
theorem putCol_cons (c : List Int) (C : List (List Int)) (i : Nat) (n : Int) : putCol (c :: C) (i + 1) n = c :: putCol C i n := by
  unfold putCol
  by_cases h : i = C.length
  · rw [if_pos h, if_pos (by simp [h])]
    simp
  · rw [if_neg h, if_neg (by simpa using h)]
    simp
theorem addRow_snoc : ∀ (l : List Int) (C : List (List Int)) (n : Int), putCol (addRow C l) l.length n = addRow C (l ++ [n])
  | [], C, n => by
    rw [addRow_nil]
    cases C with
    | nil => rfl
    | cons c C => simp [putCol, addRow]
  | a :: l, [], n => by
    simp only [addRow, List.cons_append, List.length_cons]
    rw [putCol_cons, addRow_snoc l [] n]
  | a :: l, c :: C, n => by
    simp only [addRow, List.cons_append, List.length_cons]
    rw [putCol_cons, addRow_snoc l C n]
theorem cols_snoc (m : List (List Int)) (r : List Int) : cols (m ++ [r]) = addRow (cols m) r := by simp [cols]
theorem cols_bd (b : Nat) : ∀ (m : List (List Int)), (∀ r ∈ m, r.length ≤ b) → (cols m).length ≤ b ∧ ∀ c ∈ cols m, c ≠ [] ∧ c.length ≤ m.length := by
  intro m
  have key : ∀ (m C : List (List Int)) (q : Nat), (∀ r ∈ m, r.length ≤ b) → C.length ≤ b → (∀ c ∈ C, c ≠ [] ∧ c.length ≤ q) → (m.foldl addRow C).length ≤ b ∧ ∀ c ∈ m.foldl addRow C, c ≠ [] ∧ c.length ≤ q + m.length := by
    intro m
    induction m with
    | nil => intro C q _ h1 h2; exact ⟨h1, h2⟩
    | cons r m ih =>
      intro C q h h1 h2
      have hr := h r (by simp)
      have := ih (addRow C r) (q + 1) (fun s hs => h s (by simp [hs])) (by rw [addRow_length]; omega) (fun c hc => by
        rcases addRow_mem C r q (fun c hc => (h2 c hc).2) c hc with h3 | h3
        · exact h3
        · exact ⟨(h2 c h3).1, Nat.le_succ_of_le (h2 c h3).2⟩)
      refine ⟨this.1, fun c hc => ⟨(this.2 c hc).1, ?_⟩⟩
      have := (this.2 c hc).2
      rw [List.length_cons]; omega
  intro h
  have := key m [] 0 h (by simp) (by simp)
  simpa [cols] using this
def Desc (C : List (List Int)) : Prop := C.Pairwise (fun a b => b.length ≤ a.length)
theorem at2_lt {m : List (List Int)} {i j : Nat} {v : Int} (h : at2 m i j = some v) : ∃ hi : i < m.length, ∃ hj : j < m[i].length, m[i][j] = v := by
  unfold at2 at h
  obtain ⟨r, h1, h2⟩ := Option.bind_eq_some_iff.1 h
  obtain ⟨hi, rfl⟩ := List.getElem?_eq_some_iff.1 h1
  obtain ⟨hj, h3⟩ := List.getElem?_eq_some_iff.1 h2
  exact ⟨hi, hj, h3⟩
theorem at2_append (P : List (List Int)) (c : List Int) (j i : Nat) : at2 (P ++ [c]) j i = if j < P.length then at2 P j i else if j = P.length then c[i]? else none := by
  unfold at2
  rw [List.getElem?_append]
  split
  · rfl
  · rename_i h
    split
    · rename_i h2; subst h2; simp
    · rename_i h2
      rw [List.getElem?_eq_none (by simp; omega)]
      rfl
theorem cols_at2 (C : List (List Int)) (h : Desc C) : ∀ i j, at2 (cols C) i j = at2 C j i := by
  have key : ∀ (C P R : List (List Int)), (∀ i j, at2 R i j = at2 P j i) → (P = [] → R = []) → Desc (P ++ C) → ∀ i j, at2 (C.foldl addRow R) i j = at2 (P ++ C) j i := by
    intro C
    induction C with
    | nil => intro P R h1 _ _ i j; simpa using h1 i j
    | cons c C ih =>
      intro P R h1 h2 h3
      rw [List.foldl_cons, show P ++ c :: C = (P ++ [c]) ++ C by simp]
      refine ih (P ++ [c]) (addRow R c) ?_ (by simp) (by simpa using h3)
      intro i j
      have hp : ∀ p ∈ P, c.length ≤ p.length := fun p hp => (List.pairwise_append.1 h3).2.2 p hp c (by simp)
      rw [at2_append]
      show ((addRow R c)[i]?).bind (fun r => r[j]?) = _
      rw [addRow_get]
      cases hc : c[i]? with
      | none =>
        show at2 R i j = _
        rw [h1]
        split
        · rfl
        · rename_i h4
          unfold at2
          rw [List.getElem?_eq_none (by omega)]
          split <;> rfl
      | some n =>
        have hi : i < c.length := (List.getElem?_eq_some_iff.1 hc).1
        have hlen : ((R[i]?).getD []).length = P.length ∧ ∀ q, ((R[i]?).getD [])[q]? = at2 R i q := by
          have e : ∀ q, ((R[i]?).getD [])[q]? = at2 R i q := by
            intro q
            unfold at2
            cases R[i]? <;> simp
          refine ⟨?_, e⟩
          have h5 : ∀ q, q < P.length ↔ q < ((R[i]?).getD []).length := by
            intro q
            have h6 : ((R[i]?).getD [])[q]? = at2 P q i := by rw [e, h1]
            constructor
            · intro hq
              have h7 : at2 P q i = some (P[q][i]'(by have := hp P[q] (List.getElem_mem hq); omega)) := by
                unfold at2
                rw [List.getElem?_eq_getElem hq]
                simp
              rw [h7] at h6
              exact (List.getElem?_eq_some_iff.1 h6).1
            · intro hq
              rw [List.getElem?_eq_getElem hq] at h6
              exact (at2_lt h6.symm).1
          have h8 := h5 P.length
          have h9 := h5 ((R[i]?).getD []).length
          omega
        show ((R[i]?).getD [] ++ [n])[j]? = _
        rw [List.getElem?_append, hlen.1]
        split
        · rw [hlen.2, h1]
        · rename_i h4
          split
          · rename_i h5; subst h5; simp
          · rw [List.getElem?_eq_none (by simp; omega)]
  have := key C [] [] (by intro i j; simp [at2]) (fun _ => rfl) (by simpa using h)
  simpa [cols] using this
theorem ext2 {A B : List (List Int)} (h : ∀ i j, at2 A i j = at2 B i j) (ha : ∀ a ∈ A, a ≠ []) (hb : ∀ b ∈ B, b ≠ []) : A = B := by
  have some0 : ∀ (M : List (List Int)), (∀ a ∈ M, a ≠ []) → ∀ i, i < M.length ↔ (at2 M i 0).isSome = true := by
    intro M hM i
    constructor
    · intro hi
      unfold at2
      rw [List.getElem?_eq_getElem hi]
      have := hM M[i] (List.getElem_mem hi)
      cases hr : M[i] with
      | nil => exact absurd hr this
      | cons x r => simp
    · intro hs
      obtain ⟨v, hv⟩ := Option.isSome_iff_exists.1 hs
      exact (at2_lt hv).1
  have hl : A.length = B.length := by
    have h1 : ∀ i, i < A.length ↔ i < B.length := fun i => by rw [some0 A ha, some0 B hb, h]
    have h2 := h1 A.length
    have h3 := h1 B.length
    omega
  refine List.ext_getElem hl fun i hi1 hi2 => List.ext_getElem? fun j => ?_
  have := h i j
  unfold at2 at this
  rw [List.getElem?_eq_getElem hi1, List.getElem?_eq_getElem hi2] at this
  exact this
theorem idxFromC_split (p : Int → Bool) (l : List Int) : ∀ k : Nat, (idxFrom p l k < 0 ∧ ∀ e ∈ l, p e = false) ∨ (∃ q : Nat, ∃ hq : q < l.length, idxFrom p l k = ((k + q : Nat) : Int) ∧ p l[q] = true ∧ ∀ s, ∀ hs : s < q, p (l[s]'(by omega)) = false) := by
  induction l with
  | nil => intro k; exact .inl ⟨by simp [idxFrom], by simp⟩
  | cons x l ih =>
    intro k
    by_cases hx : p x = true
    · refine .inr ⟨0, by simp, ?_, by simpa using hx, fun s hs => by omega⟩
      simp [idxFrom, hx]
    · rcases ih (k + 1) with ⟨h1, h2⟩ | ⟨q, hq, h1, h2, h3⟩
      · refine .inl ⟨by simpa [idxFrom, hx] using h1, ?_⟩
        intro e he
        rcases List.mem_cons.1 he with rfl | he
        · simpa using hx
        · exact h2 e he
      · refine .inr ⟨q + 1, by simpa using hq, ?_, by simpa using h2, ?_⟩
        · simp only [idxFrom, hx]
          rw [if_neg (by simp), h1]
          omega
        · intro s hs
          cases s with
          | zero => simpa using hx
          | succ s => simpa using h3 s (by omega)
theorem bumpC_split (e : List Int) (x : Int) : (bumpC e x < 0 ∧ ∀ v ∈ e, v < x) ∨ (∃ q : Nat, q < e.length ∧ bumpC e x = (q : Int) ∧ x ≤ rd e (q : Int) ∧ ∀ s : Nat, s < q → rd e (s : Int) < x) := by
  rcases idxFromC_split (fun n => decide (x ≤ n)) e 0 with ⟨h1, h2⟩ | ⟨q, hq, h1, h2, h3⟩
  · exact .inl ⟨h1, fun v hv => by have := h2 v hv; simpa using this⟩
  · refine .inr ⟨q, hq, by unfold bumpC; rw [h1]; simp, ?_, fun s hs => ?_⟩
    · rw [rd_nat, List.getD_eq_getElem?_getD, List.getElem?_eq_getElem hq]
      simpa using h2
    · rw [rd_nat, List.getD_eq_getElem?_getD, List.getElem?_eq_getElem (by omega)]
      simpa using h3 s hs
theorem cols_ne (m : List (List Int)) : ∀ c ∈ cols m, c ≠ [] := fun c hc => ((cols_bd (bulk m) m (fun r hr => bulk_mem hr)).2 c hc).1
def Grid (m X : List (List Int)) : Prop := (∀ i j, at2 m i j = at2 X j i) ∧ (∀ r ∈ m, r ≠ []) ∧ (∀ c ∈ X, c ≠ []) ∧ Desc X
theorem Grid.eq {m X : List (List Int)} (h : Grid m X) : m = cols X := ext2 (fun i j => by rw [h.1, cols_at2 X h.2.2.2]) h.2.1 (cols_ne X)
theorem desc_cols (m : List (List Int)) (h : Desc m) : Desc (cols m) := by
  unfold Desc
  rw [List.pairwise_iff_getElem]
  intro a b ha hb hab
  refine Nat.le_of_not_lt fun hlt => ?_
  have hlt2 := hlt
  generalize hi : (cols m)[a].length = i at hlt
  have h1 : at2 (cols m) b i = some ((cols m)[b][i]) := by
    unfold at2
    rw [List.getElem?_eq_getElem hb]
    simp
  rw [cols_at2 m h] at h1
  obtain ⟨g1, g2, _⟩ := at2_lt h1
  have h2 : at2 m i a = some (m[i][a]'(by omega)) := by
    unfold at2
    rw [List.getElem?_eq_getElem g1]
    simp
  rw [← cols_at2 m h] at h2
  obtain ⟨_, g3, _⟩ := at2_lt h2
  omega
theorem grid_cols (m : List (List Int)) (h : Desc m) (hne : ∀ r ∈ m, r ≠ []) : Grid m (cols m) :=
  ⟨fun i j => (cols_at2 m h j i).symm, hne, cols_ne m, desc_cols m h⟩
theorem upd_set (M : List (List Int)) (a b : Nat) (x : Int) (ha : a < M.length) (hb : b < M[a].length) (i j : Nat) : at2 (M.set a (M[a].set b x)) i j = if i = a ∧ j = b then some x else at2 M i j := by
  unfold at2
  rw [List.getElem?_set]
  by_cases h : a = i
  · subst h
    rw [if_pos rfl, if_pos ha, List.getElem?_eq_getElem ha]
    show (M[a].set b x)[j]? = if a = a ∧ j = b then some x else M[a][j]?
    rw [List.getElem?_set]
    by_cases h2 : b = j
    · subst h2; rw [if_pos rfl, if_pos hb, if_pos ⟨rfl, rfl⟩]
    · rw [if_neg h2, if_neg (fun g => h2 g.2.symm)]
  · rw [if_neg h, if_neg (fun g => h g.1.symm)]
theorem upd_push (M : List (List Int)) (a : Nat) (x : Int) (ha : a < M.length) (i j : Nat) : at2 (M.set a (M[a] ++ [x])) i j = if i = a ∧ j = M[a].length then some x else at2 M i j := by
  unfold at2
  rw [List.getElem?_set]
  by_cases h : a = i
  · subst h
    rw [if_pos rfl, if_pos ha, List.getElem?_eq_getElem ha]
    show (M[a] ++ [x])[j]? = if a = a ∧ j = M[a].length then some x else M[a][j]?
    by_cases h2 : j = M[a].length
    · subst h2; rw [if_pos ⟨rfl, rfl⟩]; simp
    · rw [if_neg (fun g => h2 g.2), List.getElem?_append]
      split
      · rfl
      · rw [List.getElem?_eq_none (by simp; omega), List.getElem?_eq_none (by omega)]
  · rw [if_neg h, if_neg (fun g => h g.1.symm)]
theorem upd_new (M : List (List Int)) (x : Int) (i j : Nat) : at2 (M ++ [[x]]) i j = if i = M.length ∧ j = 0 then some x else at2 M i j := by
  rw [at2_append]
  by_cases h : i < M.length
  · rw [if_pos h, if_neg (fun g => by omega)]
  · rw [if_neg h]
    have e : at2 M i j = none := by unfold at2; rw [List.getElem?_eq_none (by omega)]; rfl
    rw [e]
    by_cases h2 : i = M.length
    · rw [if_pos h2]
      by_cases h3 : j = 0
      · rw [if_pos ⟨h2, h3⟩]; subst h3; rfl
      · rw [if_neg (fun g => h3 g.2), List.getElem?_eq_none (by simp; omega)]
    · rw [if_neg h2, if_neg (fun g => h2 g.1)]
theorem set_mid (D E : List (List Int)) (e e' : List Int) : (D ++ e :: E).set D.length e' = D ++ e' :: E := by simp
theorem getElem_mid (D E : List (List Int)) (e : List Int) (h : D.length < (D ++ e :: E).length) : (D ++ e :: E)[D.length]'h = e := by simp
theorem row_len {m X : List (List Int)} (h : Grid m X) (i : Nat) (hi : i < m.length) (c : Nat) (h1 : c ≤ X.length) (h2 : ∀ j, ∀ hj : j < X.length, j < c → i < X[j].length) (h3 : ∀ j, ∀ hj : j < X.length, c ≤ j → X[j].length ≤ i) : m[i].length = c := by
  have key : ∀ j, j < m[i].length ↔ j < c := by
    intro j
    have e : at2 m i j = m[i][j]? := by unfold at2; rw [List.getElem?_eq_getElem hi]; rfl
    have e2 := h.1 i j
    rw [e] at e2
    constructor
    · intro hj
      rw [List.getElem?_eq_getElem hj] at e2
      obtain ⟨g1, g2, _⟩ := at2_lt e2.symm
      refine Nat.lt_of_not_le fun hc => ?_
      have := h3 j g1 hc
      omega
    · intro hj
      have hx := h2 j (by omega) hj
      have e3 : at2 X j i = some (X[j][i]) := by unfold at2; rw [List.getElem?_eq_getElem (by omega)]; simp
      rw [e3] at e2
      exact (List.getElem?_eq_some_iff.1 e2).1
  have h4 := key m[i].length
  have h5 := key c
  omega
theorem row_lt {m X : List (List Int)} (h : Grid m X) (i j : Nat) (hj : j < X.length) (hi : i < X[j].length) : ∃ hm : i < m.length, ∃ hk : j < m[i].length, m[i][j] = X[j][i] := by
  have e3 : at2 X j i = some (X[j][i]) := by unfold at2; rw [List.getElem?_eq_getElem hj]; simp
  rw [← h.1] at e3
  exact at2_lt e3
theorem rows_count {m e : List (List Int)} {c : List Int} (h : Grid m (c :: e)) : m.length = c.length := by
  have key : ∀ i, i < m.length ↔ i < c.length := by
    intro i
    have e2 := h.1 i 0
    constructor
    · intro hi
      have hne := h.2.1 m[i] (List.getElem_mem hi)
      have e : at2 m i 0 = some (m[i][0]'(List.length_pos_iff.2 hne)) := by unfold at2; rw [List.getElem?_eq_getElem hi]; simp
      rw [e] at e2
      obtain ⟨_, g2, _⟩ := at2_lt e2.symm
      exact g2
    · intro hi
      exact (row_lt h i 0 (by simp) (by simpa using hi)).1
  have h1 := key m.length
  have h2 := key c.length
  omega
theorem rows_none {m : List (List Int)} (h : Grid m []) : m = [] := h.eq
theorem Grid.turn {m D E : List (List Int)} {e : List Int} (h : Grid m (D ++ e :: E)) (k : Nat) (hk : k < e.length) (x : Int) :
    ∃ hm : k < m.length, Grid (m.set k (m[k].set D.length x)) (D ++ e.set k x :: E) ∧ D.length < m[k].length := by
  have hX : D.length < (D ++ e :: E).length := by simp
  have hXe := getElem_mid D E e hX
  obtain ⟨hm, hc, _⟩ := row_lt h k D.length hX (by rw [hXe]; exact hk)
  refine ⟨hm, ⟨fun i j => ?_, fun r hr => ?_, fun c hcm => ?_, ?_⟩, hc⟩
  · rw [upd_set m k D.length x hm hc, ← set_mid D E e (e.set k x)]
    have := upd_set (D ++ e :: E) D.length k x hX (by rw [hXe]; exact hk) j i
    rw [hXe] at this
    rw [this, h.1]
    by_cases g : i = k ∧ j = D.length
    · rw [if_pos g, if_pos ⟨g.2, g.1⟩]
    · rw [if_neg g, if_neg (fun q => g ⟨q.2, q.1⟩)]
  · rcases List.mem_or_eq_of_mem_set hr with g | g
    · exact h.2.1 r g
    · subst g
      exact List.length_pos_iff.1 (by rw [List.length_set]; omega)
  · rcases List.mem_append.1 hcm with g | g
    · exact h.2.2.1 c (by simp [g])
    · rcases List.mem_cons.1 g with g | g
      · subst g
        exact List.length_pos_iff.1 (by rw [List.length_set]; omega)
      · exact h.2.2.1 c (by simp [g])
  · have hd := h.2.2.2
    unfold Desc at hd ⊢
    rw [List.pairwise_append, List.pairwise_cons] at hd ⊢
    rw [List.length_set]
    refine ⟨hd.1, hd.2.1, fun a ha b hb => ?_⟩
    rcases List.mem_cons.1 hb with g | g
    · subst g
      rw [List.length_set]
      exact hd.2.2 a ha e (by simp)
    · exact hd.2.2 a ha b (by simp [g])
theorem desc_push {D E : List (List Int)} {e : List Int} (hd : Desc (D ++ e :: E)) (hD : ∀ d ∈ D, e.length < d.length) (x : Int) : Desc (D ++ (e ++ [x]) :: E) := by
  unfold Desc at hd ⊢
  rw [List.pairwise_append, List.pairwise_cons] at hd ⊢
  refine ⟨hd.1, ⟨fun b hb => ?_, hd.2.1.2⟩, fun a ha b hb => ?_⟩
  · have := hd.2.1.1 b hb
    rw [List.length_append]; omega
  · rcases List.mem_cons.1 hb with g | g
    · subst g
      have := hD a ha
      rw [List.length_append, List.length_singleton]; omega
    · exact hd.2.2 a ha b (by simp [g])
theorem Grid.push {m D E : List (List Int)} {e : List Int} (h : Grid m (D ++ e :: E)) (x : Int) (hD : ∀ d ∈ D, e.length < d.length) :
    (D = [] → m.length = e.length ∧ Grid (m ++ [[x]]) ((e ++ [x]) :: E)) ∧ (D ≠ [] → ∃ hm : e.length < m.length, m[e.length].length = D.length ∧ Grid (m.set e.length (m[e.length] ++ [x])) (D ++ (e ++ [x]) :: E)) := by
  have hX : D.length < (D ++ e :: E).length := by simp
  have hXe := getElem_mid D E e hX
  have hpush := upd_push (D ++ e :: E) D.length x hX
  rw [hXe, set_mid] at hpush
  have hdesc := desc_push h.2.2.2 hD x
  have hcne : ∀ c ∈ D ++ (e ++ [x]) :: E, c ≠ [] := by
    intro c hcm
    rcases List.mem_append.1 hcm with g | g
    · exact h.2.2.1 c (by simp [g])
    · rcases List.mem_cons.1 g with g | g
      · subst g; simp
      · exact h.2.2.1 c (by simp [g])
  constructor
  · intro hnil
    subst hnil
    have hl := rows_count h
    refine ⟨hl, fun i j => ?_, fun r hr => ?_, hcne, hdesc⟩
    · have := hpush j i
      rw [List.nil_append] at this
      rw [upd_new, this, h.1, hl]
      by_cases g : i = e.length ∧ j = 0
      · rw [if_pos g, if_pos ⟨g.2, g.1⟩]
      · rw [if_neg g, if_neg (fun q => g ⟨q.2, q.1⟩)]
    · rcases List.mem_append.1 hr with g | g
      · exact h.2.1 r g
      · obtain rfl : r = [x] := by simpa using g
        simp
  · intro hne
    obtain ⟨d0, D0, rfl⟩ := List.exists_cons_of_ne_nil hne
    have h0 : e.length < m.length := by
      have := rows_count (e := D0 ++ e :: E) (c := d0) (by simpa using h)
      have := hD d0 (by simp)
      omega
    have hlen : m[e.length].length = (d0 :: D0).length := by
      refine row_len h e.length h0 _ (by simp) (fun j hj hjc => ?_) (fun j hj hjc => ?_)
      · rw [List.getElem_append_left hjc]
        exact hD _ (List.getElem_mem _)
      · rw [List.getElem_append_right hjc]
        have hd := (List.pairwise_append.1 h.2.2.2).2.1
        rw [List.pairwise_cons] at hd
        have hall : ∀ q, ∀ hq : q < (e :: E).length, (e :: E)[q].length ≤ e.length := by
          intro q hq
          cases q with
          | zero => exact Nat.le_refl _
          | succ q => exact hd.1 _ (List.getElem_mem _)
        exact hall _ _
    refine ⟨h0, hlen, fun i j => ?_, fun r hr => ?_, hcne, hdesc⟩
    · rw [upd_push m e.length x h0, hlen, hpush, h.1]
      by_cases g : i = e.length ∧ j = (d0 :: D0).length
      · rw [if_pos g, if_pos ⟨g.2, g.1⟩]
      · rw [if_neg g, if_neg (fun q => g ⟨q.2, q.1⟩)]
    · rcases List.mem_or_eq_of_mem_set hr with g | g
      · exact h.2.1 r g
      · subst g; simp
theorem Grid.fresh {m D : List (List Int)} (h : Grid m D) (x : Int) :
    (D = [] → m = [] ∧ Grid [[x]] [[x]]) ∧ (D ≠ [] → ∃ hm : 0 < m.length, m[0].length = D.length ∧ Grid (m.set 0 (m[0] ++ [x])) (D ++ [[x]])) := by
  constructor
  · intro e
    subst e
    refine ⟨rows_none h, fun i j => ?_, by simp, by simp, by simp [Desc]⟩
    have h1 := upd_new [] x i j
    have h2 := upd_new [] x j i
    rw [List.nil_append, List.length_nil] at h1 h2
    rw [h1, h2]
    have e1 : ∀ a b, at2 [] a b = none := fun a b => rfl
    rw [e1, e1]
    by_cases g : i = 0 ∧ j = 0
    · rw [if_pos g, if_pos ⟨g.2, g.1⟩]
    · rw [if_neg g, if_neg (fun q => g ⟨q.2, q.1⟩)]
  · intro hne
    obtain ⟨d0, D0, rfl⟩ := List.exists_cons_of_ne_nil hne
    have hd0 : 0 < d0.length := List.length_pos_iff.2 (h.2.2.1 d0 (by simp))
    have h0 : 0 < m.length := by rw [rows_count h]; exact hd0
    have hlen : m[0].length = (d0 :: D0).length := by
      refine row_len h 0 h0 _ (Nat.le_refl _) (fun j hj _ => ?_) (fun j hj hjc => by omega)
      exact List.length_pos_iff.2 (h.2.2.1 _ (List.getElem_mem hj))
    refine ⟨h0, hlen, fun i j => ?_, fun r hr => ?_, fun c hc => ?_, ?_⟩
    · rw [upd_push m 0 x h0, hlen, upd_new, h.1]
      by_cases g : i = 0 ∧ j = (d0 :: D0).length
      · rw [if_pos g, if_pos ⟨g.2, g.1⟩]
      · rw [if_neg g, if_neg (fun q => g ⟨q.2, q.1⟩)]
    · rcases List.mem_or_eq_of_mem_set hr with g | g
      · exact h.2.1 r g
      · subst g; simp
    · rcases List.mem_append.1 hc with g | g
      · exact h.2.2.1 c g
      · obtain rfl : c = [x] := by simpa using g
        simp
    · unfold Desc
      rw [List.pairwise_append]
      refine ⟨h.2.2.2, by simp, fun a ha b hb => ?_⟩
      obtain rfl : b = [x] := by simpa using hb
      exact List.length_pos_iff.2 (h.2.2.1 a ha)
def RowInc : List (List Int) → Prop
  | e :: e2 :: E => (∀ k : Nat, k < e2.length → rd e (k : Int) ≤ rd e2 (k : Int)) ∧ RowInc (e2 :: E)
  | _ => True
theorem insCols_bd : ∀ (C : List (List Int)) (x : Int) (b : Nat), (∀ c ∈ C, c.length ≤ b) → (insCols C x).length ≤ C.length + 1 ∧ ∀ c ∈ insCols C x, c.length ≤ b + 1
  | [], x, b, _ => ⟨by simp [insCols], fun c hc => by
      obtain rfl : c = [x] := by simpa [insCols] using hc
      simp⟩
  | r :: l, x, b, h => by
    have h1 := h r (by simp)
    have h2 : ∀ c ∈ l, c.length ≤ b := fun c hc => h c (by simp [hc])
    rw [insCols]
    by_cases hb : bumpC r x < 0
    · rw [if_pos hb]
      refine ⟨by simp, fun c hc => ?_⟩
      rcases List.mem_cons.1 hc with g | g
      · subst g; rw [List.length_append, List.length_singleton]; omega
      · have := h2 c g; omega
    · rw [if_neg hb]
      obtain ⟨g1, g2⟩ := insCols_bd l (rd r (bumpC r x)) b h2
      refine ⟨by simp only [List.length_cons]; omega, fun c hc => ?_⟩
      rcases List.mem_cons.1 hc with g | g
      · subst g; rw [List.length_set]; omega
      · exact g2 c g
end Go.Proofs.Ytljjjdgnpnnmoaa.Q

set_option linter.unusedVariables false
set_option linter.unusedSimpArgs false
namespace Go.Proofs.Ytljjjdgnpnnmoaa.Q
open Go.RowKit Go.Proofs.Ytljjjdgnpnnmoaa.F Go.Proofs.YtljjjdgnpnnmoaaW.PrintWords Go.Proofs.YtljjjdgnpnnmoaaW.PrintLast Go.Proofs.YtljjjdgnpnnmoaaW.PrintMore
theorem cols_take (m : List (List Int)) (i : Nat) (h : i < m.length) : cols (m.take (i + 1)) = addRow (cols (m.take i)) (rd_L1 m (i : Int)) := by
  rw [take_rows m i h, cols_snoc]
theorem putCol_eq (C : List (List Int)) (i : Nat) (n : Int) : putCol C i n = (if i = C.length then C ++ [[]] else C).set i (rd_L1 (if i = C.length then C ++ [[]] else C) (i : Int) ++ [n]) := by
  unfold putCol
  rw [rows_nat]
theorem impl_columnsOf_l1 (m : List (List Int)) (i : Nat) (C : List (List Int)) (Z : List (List Int)) (hC : C.length ≤ 1048576) (hc : ∀ c ∈ C, c.length ≤ 1048576) (hrow : (rd_L1 m (i : Int)).length ≤ 1048576)
    (hnext : Ev (fun k => impl_columnsOf.l0 k (addRow C (rd_L1 m (i : Int))) m (m.length : Int) (wrap64 ((i : Int) + 1))) Z) :
    ∀ (d j : Nat), j + d = (rd_L1 m (i : Int)).length → Ev (fun k => impl_columnsOf.l1 k (addRow C ((rd_L1 m (i : Int)).take j)) m (m.length : Int) (i : Int) (rd_L1 m (i : Int)) ((rd_L1 m (i : Int)).length : Int) (j : Int)) Z
  | 0, j, hj => by
    refine Ev.step (fun k => by rw [impl_columnsOf.l1]) ?_
    rw [List.take_of_length_le (by omega)]
    exact ev_neg (by omega) hnext
  | d + 1, j, hj => by
    generalize hR : rd_L1 m (i : Int) = row at hrow hnext hj
    have hlt : j < row.length := by omega
    have ih := impl_columnsOf_l1 m i C Z hC hc (by rw [hR]; exact hrow) (by rw [hR]; exact hnext) d (j + 1) (by rw [hR]; omega)
    rw [hR] at ih
    have hlen := addRow_length C (row.take j)
    rw [List.length_take] at hlen
    have hput := addRow_snoc (row.take j) C (rd row (j : Int))
    rw [← take_rd row j hlt, List.length_take, Nat.min_eq_left (Nat.le_of_lt hlt), putCol_eq] at hput
    have hcell : (rd_L1 (addRow C (row.take j)) (j : Int)).length ≤ 1048576 := by
      rw [rows_nat, List.getD_eq_getElem?_getD, addRow_get]
      have e : (row.take j)[j]? = none := List.getElem?_eq_none (by rw [List.length_take]; omega)
      rw [e]
      show ((C[j]?).getD []).length ≤ _
      cases hq : C[j]? with
      | none => simp
      | some c => exact hc c (List.mem_of_getElem? hq)
    refine Ev.step (fun k => by rw [impl_columnsOf.l1]) ?_
    refine ev_pos (by omega) (ev_pos (by omega) (ev_pos (by omega) (ev_ite (fun h => ?_) (fun h => ?_))))
    · have h2 : j = (addRow C (row.take j)).length := by omega
      rw [if_pos h2] at hput
      have er : rd_L1 (addRow C (row.take j) ++ [[]]) (j : Int) = [] := by rw [rows_nat, List.getD_eq_getElem?_getD, List.getElem?_append_right (by omega), ← h2]; simp
      refine ev_pos (by omega) (ev_bindc rfl (ev_pos (by rw [List.length_append, List.length_singleton]; omega) (ev_pos (by rw [er]; simp) ?_)))
      rw [Int.toNat_natCast, hput, wrap_succ (by omega)]
      exact ih
    · have h2 : ¬ j = (addRow C (row.take j)).length := by omega
      rw [if_neg h2] at hput
      refine ev_pos (by omega) (ev_pos (by omega) ?_)
      rw [Int.toNat_natCast, hput, wrap_succ (by omega)]
      exact ih
theorem impl_columnsOf_ev (n : List Int) (m : List (List Int)) (hm : m.length ≤ 1048575) (hr : ∀ r ∈ m, r.length ≤ 1048576) : Ev (fun k => impl_columnsOf.f k n m) (cols m) := by
  have key : ∀ (d i : Nat), i + d = m.length → Ev (fun k => impl_columnsOf.l0 k (cols (m.take i)) m (m.length : Int) (i : Int)) (cols m) := by
    intro d
    induction d with
    | zero =>
      intro i hi
      refine Ev.step (fun k => by rw [impl_columnsOf.l0]) ?_
      exact ev_neg (by omega) (ev_val (by rw [List.take_of_length_le (by omega)]))
    | succ d ih =>
      intro i hi
      have hlt : i < m.length := by omega
      obtain ⟨b1, b2⟩ := cols_bd 1048576 (m.take i) (fun r h => hr r (List.mem_of_mem_take h))
      refine Ev.step (fun k => by rw [impl_columnsOf.l0]) ?_
      refine ev_pos (by omega) (ev_pos (by omega) (ev_pos (by omega) ?_))
      have := impl_columnsOf_l1 m i (cols (m.take i)) (cols m) b1 (fun c hc => by have := (b2 c hc).2; rw [List.length_take] at this; omega) (hr _ (rows_mem m i hlt)) (by
        rw [← cols_take m i hlt, wrap_succ (by omega)]
        exact ih (i + 1) (by omega)) (rd_L1 m (i : Int)).length 0 (by omega)
      rw [List.take_zero, addRow_nil] at this
      exact this
  unfold impl_columnsOf.f
  exact key m.length 0 (by omega)
theorem impl_ofColumns_ev (m : List (List Int)) (hm : m.length ≤ 1048575) (hr : ∀ r ∈ m, r.length ≤ 1048576) : Ev (fun k => impl_ofColumns.f k m) ([], cols m) := by
  unfold impl_ofColumns.f
  exact Ev.bind (impl_columnsOf_ev [] m hm hr) (ev_val rfl)
end Go.Proofs.Ytljjjdgnpnnmoaa.Q

set_option linter.unusedVariables false
set_option linter.unusedSimpArgs false
namespace Go.Proofs.Ytljjjdgnpnnmoaa.Q
open Go.RowKit Go.Proofs.Ytljjjdgnpnnmoaa.F Go.Proofs.YtljjjdgnpnnmoaaW.PrintWords Go.Proofs.YtljjjdgnpnnmoaaW.PrintLast Go.Proofs.YtljjjdgnpnnmoaaW.PrintMore
theorem flatten_bulk : ∀ (m : List (List Int)), m.flatten.length = bulk m
  | [] => rfl
  | r :: m => by rw [List.flatten_cons, List.length_append, flatten_bulk m]; rfl
end Go.Proofs.Ytljjjdgnpnnmoaa.Q

set_option linter.unusedVariables false
set_option linter.unusedSimpArgs false
namespace Go.Proofs.Ytljjjdgnpnnmoaa.Q
open Go.RowKit Go.Proofs.Ytljjjdgnpnnmoaa.F Go.Proofs.YtljjjdgnpnnmoaaW.PrintWords Go.Proofs.YtljjjdgnpnnmoaaW.PrintLast Go.Proofs.YtljjjdgnpnnmoaaW.PrintMore
theorem spec_l1In_eq (a b c : Int) : spec_l1In.f a b c = some (decide (b ≤ a ∧ a ≤ c)) := by
  unfold spec_l1In.f
  by_cases h : b ≤ a
  · rw [if_pos h]; simp [h]
  · rw [if_neg h]; simp [h]
end Go.Proofs.Ytljjjdgnpnnmoaa.Q

set_option linter.unusedVariables false
set_option linter.unusedSimpArgs false
namespace Go.Proofs.Ytljjjdgnpnnmoaa.Q
open Go.RowKit Go.Proofs.Ytljjjdgnpnnmoaa.F Go.Proofs.YtljjjdgnpnnmoaaW.PrintWords Go.Proofs.YtljjjdgnpnnmoaaW.PrintLast Go.Proofs.YtljjjdgnpnnmoaaW.PrintMore
def at0 (l : List Int) (i : Int) : Int := if 0 ≤ i ∧ i < (l.length : Int) then rd l i else 0
theorem at0_nat (l : List Int) (i : Nat) (h : i < l.length) : at0 l (i : Int) = rd l (i : Int) := by unfold at0; rw [if_pos (by omega)]
theorem at0_out (l : List Int) (i : Int) (h : i < 0 ∨ (l.length : Int) ≤ i) : at0 l i = 0 := by unfold at0; rw [if_neg (by omega)]
theorem impl_within_eq (a b c : Int) : impl_within.f a b c = some (decide (b ≤ a ∧ a ≤ c)) := rfl
theorem impl_at_eq (l : List Int) (i : Int) (hl : l.length ≤ 1048576) : impl_at.f l i = some (at0 l i) := by
  unfold impl_at.f at0
  rw [wrap_id (by omega) (by omega), impl_within_eq]
  simp only [Option.bind_some]
  by_cases h : 0 ≤ i ∧ i < (l.length : Int)
  · rw [if_pos h, if_pos (by rw [decide_eq_true_eq]; omega), if_pos h.1, if_pos h.2]
  · rw [if_neg h, if_neg (by rw [decide_eq_true_eq]; omega)]
theorem spec_l2At_eq (l : List Int) (i : Int) : spec_l2At.f l i = some (at0 l i) := by
  unfold spec_l2At.f at0
  by_cases h1 : i < 0
  · rw [if_pos h1, if_neg (by omega)]
  · rw [if_neg h1]
    by_cases h2 : i ≥ (l.length : Int)
    · rw [if_pos h2, if_neg (by omega)]
    · rw [if_neg h2, if_pos (by omega), if_pos (by omega), if_pos (by omega)]
def partOk (prev s : Int) : List Int → Bool
  | [] => true
  | x :: l => decide (1 ≤ x ∧ x ≤ 9) && decide (x ≤ prev) && decide (s + x ≤ 9) && partOk x (s + x) l
def isPartition (l : List Int) : Bool := partOk 9 0 l
theorem partOk_sum {l : List Int} : ∀ {prev s : Int}, s ≤ 9 → partOk prev s l = true → s + isum l ≤ 9 ∧ s + l.length ≤ 9 ∧ ∀ x ∈ l, 1 ≤ x ∧ x ≤ 9 := by
  induction l with
  | nil => intro prev s h _; simp [isum, h]
  | cons x l ih =>
    intro prev s h hp
    simp only [partOk, Bool.and_eq_true, decide_eq_true_eq] at hp
    obtain ⟨⟨⟨h1, h2⟩, h3⟩, h4⟩ := hp
    obtain ⟨g1, g2, g3⟩ := ih h3 h4
    simp only [isum, List.length_cons]
    refine ⟨by omega, by omega, fun y hy => ?_⟩
    rcases List.mem_cons.1 hy with rfl | hy
    · exact h1
    · exact g3 y hy
theorem isPartition_bd {l : List Int} (h : isPartition l = true) : isum l ≤ 9 ∧ l.length ≤ 9 ∧ ∀ x ∈ l, 1 ≤ x ∧ x ≤ 9 := by
  obtain ⟨h1, h2, h3⟩ := partOk_sum (by omega) h
  exact ⟨by omega, by omega, h3⟩
theorem bool_not_t {X : Bool} (h : true = !X) : X = false := by cases X <;> simp_all
theorem bool_not_f {X : Bool} (h : false = !X) : X = true := by cases X <;> simp_all
def before (l : List Int) (i : Nat) : Int := match i with | 0 => 9 | i + 1 => rd l (i : Int)
theorem spec_IsPartition_ev (l : List Int) (hl : l.length ≤ 1048576) : Ev (fun k => spec_IsPartition.f k l) (isPartition l) := by
  have key : ∀ i, i ≤ l.length → ∀ s : Int, 0 ≤ s → s ≤ 9 → Ev (fun k => spec_IsPartition.l0 k l s (i : Int)) (partOk (before l i) s (l.drop i)) := by
    refine downTo l.length ?_ ?_
    · intro s a b
      refine Ev.step (fun k => by rw [spec_IsPartition.l0]) ?_
      exact ev_neg (by omega) (ev_val (by rw [List.drop_length]; rfl))
    · intro i hi ih s a b
      have hstep : ∀ c : Bool, (c = !(decide (1 ≤ rd l (i : Int) ∧ rd l (i : Int) ≤ 9) && decide (rd l (i : Int) ≤ before l i))) → Ev (fun k => spec_IsPartition.j1 k l s (i : Int) c) (partOk (before l i) s (l.drop i)) := by
        intro c hc
        refine Ev.step (fun k => by rw [spec_IsPartition.j1]) ?_
        rw [drop_rd l i hi]
        simp only [partOk]
        cases c with
        | true =>
          refine ev_pos rfl (ev_val ?_)
          have : (decide (1 ≤ rd l (i : Int) ∧ rd l (i : Int) ≤ 9) && decide (rd l (i : Int) ≤ before l i)) = false := bool_not_t hc
          rw [this]; rfl
        | false =>
          have hg : (decide (1 ≤ rd l (i : Int) ∧ rd l (i : Int) ≤ 9) && decide (rd l (i : Int) ≤ before l i)) = true := bool_not_f hc
          have h1 : 1 ≤ rd l (i : Int) ∧ rd l (i : Int) ≤ 9 := by simp only [Bool.and_eq_true, decide_eq_true_eq] at hg; exact hg.1
          rw [hg, Bool.true_and, wrap_id (i := s + rd l (i : Int)) (by omega) (by omega)]
          refine ev_neg (by simp) (ev_pos (by omega) (ev_pos (by omega) (ev_ite (fun h => ev_val ?_) (fun h => ?_))))
          · rw [decide_eq_false (by omega)]; rfl
          · rw [wrap_succ (by omega), decide_eq_true (by omega), Bool.true_and]
            exact ih _ (by omega) (by omega)
      refine Ev.step (fun k => by rw [spec_IsPartition.l0]) ?_
      refine ev_pos (by omega) (ev_pos (by omega) (ev_bindc (spec_l1In_eq _ _ _) (ev_ite (fun h => ?_) (fun h => ?_))))
      · cases i with
        | zero =>
          refine ev_neg (by omega) (hstep false ?_)
          rw [decide_eq_true_eq] at h
          have h' : rd l ((0 : Nat) : Int) ≤ before l 0 := by show _ ≤ (9 : Int); omega
          rw [decide_eq_true h, decide_eq_true h']; rfl
        | succ i =>
          have e : wrap64 (((i + 1 : Nat) : Int) - 1) = (i : Int) := by unfold wrap64; omega
          rw [e]
          refine ev_pos (by omega) (ev_pos (by omega) (ev_pos (by omega) (hstep _ ?_)))
          rw [h, Bool.true_and]
          show decide (rd l ((i + 1 : Nat) : Int) > rd l (i : Int)) = !decide (rd l ((i + 1 : Nat) : Int) ≤ rd l (i : Int))
          by_cases g : rd l ((i + 1 : Nat) : Int) ≤ rd l (i : Int)
          · rw [decide_eq_true g, decide_eq_false (by omega)]; rfl
          · rw [decide_eq_false g, decide_eq_true (by omega)]; rfl
      · refine hstep true ?_
        simp only [Bool.not_eq_true] at h
        rw [h]; rfl
  unfold spec_IsPartition.f isPartition
  have := key 0 (by omega) 0 (by omega) (by omega)
  rw [List.drop_zero] at this
  exact this
theorem impl_IsPartition_ev (l : List Int) (hl : l.length ≤ 1048576) : Ev (fun k => impl_IsPartition.f k l) (isPartition l) := by
  have key : ∀ i, i ≤ l.length → ∀ s : Int, 0 ≤ s → s ≤ 9 → Ev (fun k => impl_IsPartition.l0 k l s l (l.length : Int) (i : Int)) (partOk (before l i) s (l.drop i)) := by
    refine downTo l.length ?_ ?_
    · intro s a b
      refine Ev.step (fun k => by rw [impl_IsPartition.l0]) ?_
      exact ev_neg (by omega) (ev_val (by rw [List.drop_length]; rfl))
    · intro i hi ih s a b
      have hstep : ∀ c : Bool, (c = !(decide (1 ≤ rd l (i : Int) ∧ rd l (i : Int) ≤ 9) && decide (rd l (i : Int) ≤ before l i))) → Ev (fun k => impl_IsPartition.j1 k l s (rd l (i : Int)) l (l.length : Int) (i : Int) c) (partOk (before l i) s (l.drop i)) := by
        intro c hc
        refine Ev.step (fun k => by rw [impl_IsPartition.j1]) ?_
        rw [drop_rd l i hi]
        simp only [partOk]
        cases c with
        | true =>
          refine ev_pos rfl (ev_val ?_)
          have : (decide (1 ≤ rd l (i : Int) ∧ rd l (i : Int) ≤ 9) && decide (rd l (i : Int) ≤ before l i)) = false := bool_not_t hc
          rw [this]; rfl
        | false =>
          have hg : (decide (1 ≤ rd l (i : Int) ∧ rd l (i : Int) ≤ 9) && decide (rd l (i : Int) ≤ before l i)) = true := bool_not_f hc
          have h1 : 1 ≤ rd l (i : Int) ∧ rd l (i : Int) ≤ 9 := by simp only [Bool.and_eq_true, decide_eq_true_eq] at hg; exact hg.1
          rw [hg, Bool.true_and, wrap_id (i := s + rd l (i : Int)) (by omega) (by omega)]
          refine ev_neg (by simp) (ev_ite (fun h => ev_val ?_) (fun h => ?_))
          · rw [decide_eq_false (by omega)]; rfl
          · rw [wrap_succ (by omega), decide_eq_true (by omega), Bool.true_and]
            exact ih _ (by omega) (by omega)
      refine Ev.step (fun k => by rw [impl_IsPartition.l0]) ?_
      refine ev_pos (by omega) (ev_pos (by omega) (ev_pos (by omega) (ev_bindc (impl_within_eq _ _ _) (ev_ite (fun h => ?_) (fun h => ?_)))))
      · cases i with
        | zero =>
          refine ev_neg (by omega) (hstep false ?_)
          rw [decide_eq_true_eq] at h
          have h' : rd l ((0 : Nat) : Int) ≤ before l 0 := by show _ ≤ (9 : Int); omega
          rw [decide_eq_true h, decide_eq_true h']; rfl
        | succ i =>
          have e : wrap64 (((i + 1 : Nat) : Int) - 1) = (i : Int) := by unfold wrap64; omega
          rw [e]
          refine ev_pos (by omega) (ev_pos (by omega) (ev_pos (by omega) (hstep _ ?_)))
          rw [h, Bool.true_and]
          show decide (rd l ((i + 1 : Nat) : Int) > rd l (i : Int)) = !decide (rd l ((i + 1 : Nat) : Int) ≤ rd l (i : Int))
          by_cases g : rd l ((i + 1 : Nat) : Int) ≤ rd l (i : Int)
          · rw [decide_eq_true g, decide_eq_false (by omega)]; rfl
          · rw [decide_eq_false g, decide_eq_true (by omega)]; rfl
      · refine hstep true ?_
        simp only [Bool.not_eq_true] at h
        rw [h]; rfl
  unfold impl_IsPartition.f isPartition
  have := key 0 (by omega) 0 (by omega) (by omega)
  rw [List.drop_zero] at this
  exact this
end Go.Proofs.Ytljjjdgnpnnmoaa.Q

set_option linter.unusedVariables false
set_option linter.unusedSimpArgs false
namespace Go.Proofs.Ytljjjdgnpnnmoaa.Q
open Go.RowKit Go.Proofs.Ytljjjdgnpnnmoaa.F Go.Proofs.YtljjjdgnpnnmoaaW.PrintWords Go.Proofs.YtljjjdgnpnnmoaaW.PrintLast Go.Proofs.YtljjjdgnpnnmoaaW.PrintMore
def isInside (q p : List Int) : Bool := isPartition q && isPartition p && (List.range q.length).all (fun i => decide (rd q (i : Int) ≤ at0 p (i : Int)))
theorem inside_all (q p : List Int) (i : Nat) : ((List.range q.length).all (fun i => decide (rd q (i : Int) ≤ at0 p (i : Int))) = true) ↔ ∀ j, j < q.length → rd q (j : Int) ≤ at0 p (j : Int) := by
  rw [List.all_eq_true]
  constructor
  · intro h j hj; have := h j (List.mem_range.2 hj); simpa using this
  · intro h j hj; simpa using h j (List.mem_range.1 hj)
theorem isInside_len {q p : List Int} (h : isInside q p = true) : isPartition q = true ∧ isPartition p = true ∧ q.length ≤ p.length ∧ ∀ j, j < q.length → rd q (j : Int) ≤ rd p (j : Int) := by
  unfold isInside at h
  simp only [Bool.and_eq_true] at h
  obtain ⟨⟨h1, h2⟩, h3⟩ := h
  rw [inside_all q p 0] at h3
  have hb := (isPartition_bd h1).2.2
  have hlen : q.length ≤ p.length := by
    apply Classical.byContradiction
    intro hn
    have := h3 p.length (by omega)
    rw [at0_out _ _ (.inr (by omega))] at this
    have := (hb _ (rd_mem q p.length (by omega))).1
    omega
  refine ⟨h1, h2, hlen, fun j hj => ?_⟩
  have := h3 j hj
  rwa [at0_nat p j (by omega)] at this
theorem impl_IsInside_ev (q p : List Int) (hq : q.length ≤ 1048576) (hp : p.length ≤ 1048576) : Ev (fun k => impl_IsInside.f k q p) (isInside q p) := by
  unfold impl_IsInside.f isInside
  refine Ev.bind (impl_IsPartition_ev q hq) (ev_ite (fun h1 => ?_) (fun h1 => ?_))
  · refine Ev.bind (impl_IsPartition_ev p hp) (Ev.step (fun k => by rw [impl_IsInside.j0]) ?_)
    rw [h1, Bool.true_and]
    by_cases h2 : isPartition p = true
    · rw [h2, Bool.true_and]
      refine ev_neg (by simp) ?_
      have key : ∀ i, i ≤ q.length → ∃ b, Ev (fun k => impl_IsInside.l0 k p q (q.length : Int) (i : Int)) b ∧ (b = true ↔ ∀ j, i ≤ j → j < q.length → rd q (j : Int) ≤ at0 p (j : Int)) := by
        refine downTo q.length ?_ ?_
        · refine ⟨true, ?_, by simp; intro j a b; omega⟩
          refine Ev.step (fun k => by rw [impl_IsInside.l0]) ?_
          exact ev_neg (by omega) (ev_val rfl)
        · rintro i hi ⟨b, hb, hiff⟩
          by_cases hc : rd q (i : Int) > at0 p (i : Int)
          · refine ⟨false, ?_, ?_⟩
            · refine Ev.step (fun k => by rw [impl_IsInside.l0]) ?_
              exact ev_pos (by omega) (ev_pos (by omega) (ev_pos (by omega) (ev_bindc (impl_at_eq p _ hp) (ev_pos hc (ev_val rfl)))))
            · constructor
              · intro h; cases h
              · intro h; have := h i (Nat.le_refl _) hi; omega
          · refine ⟨b, ?_, ?_⟩
            · refine Ev.step (fun k => by rw [impl_IsInside.l0]) ?_
              refine ev_pos (by omega) (ev_pos (by omega) (ev_pos (by omega) (ev_bindc (impl_at_eq p _ hp) (ev_neg hc ?_))))
              rw [wrap_succ (by omega)]; exact hb
            · rw [hiff]
              constructor
              · intro h j a c
                by_cases e : j = i
                · subst e; omega
                · exact h j (by omega) c
              · intro h j a c; exact h j (by omega) c
      obtain ⟨b, hb, hiff⟩ := key 0 (by omega)
      refine ev_eq hb ?_
      rw [Bool.eq_iff_iff, hiff, inside_all q p 0]
      exact ⟨fun h j hj => h j (by omega) hj, fun h j _ hj => h j hj⟩
    · simp only [Bool.not_eq_true] at h2
      rw [h2]
      exact ev_pos rfl (ev_val rfl)
  · simp only [Bool.not_eq_true] at h1
    rw [h1]
    refine Ev.step (fun k => by rw [impl_IsInside.j0]) ?_; exact ev_pos rfl (ev_val rfl)
theorem spec_IsInside_ev (q p : List Int) (hq : q.length ≤ 1048576) (hp : p.length ≤ 1048576) : Ev (fun k => spec_IsInside.f k q p) (isInside q p) := by
  unfold spec_IsInside.f isInside
  refine Ev.bind (spec_IsPartition_ev q hq) (ev_ite (fun h1 => ?_) (fun h1 => ?_))
  · refine Ev.bind (spec_IsPartition_ev p hp) (ev_ite (fun h2 => ?_) (fun h2 => ?_))
    · rw [h1, h2, Bool.true_and, Bool.true_and]
      refine Ev.step (fun k => by rw [spec_IsInside.j0]) ?_
      have hb := (isPartition_bd h1).2.2
      by_cases hl : (q.length : Int) > (p.length : Int)
      · refine ev_pos (decide_eq_true hl) (ev_val ?_)
        symm
        rw [Bool.eq_false_iff]
        intro h
        rw [inside_all q p 0] at h
        have := h p.length (by omega)
        rw [at0_out _ _ (.inr (by omega))] at this
        have := (hb _ (rd_mem q p.length (by omega))).1
        omega
      · refine ev_neg (by simpa using hl) ?_
        have key : ∀ i, i ≤ q.length → ∃ b, Ev (fun k => spec_IsInside.l0 k q p (i : Int)) b ∧ (b = true ↔ ∀ j, i ≤ j → j < q.length → rd q (j : Int) ≤ at0 p (j : Int)) := by
          refine downTo q.length ?_ ?_
          · refine ⟨true, ?_, by simp; intro j a b; omega⟩
            refine Ev.step (fun k => by rw [spec_IsInside.l0]) ?_
            exact ev_neg (by omega) (ev_val rfl)
          · rintro i hi ⟨b, hb, hiff⟩
            have ea := at0_nat p i (by omega)
            by_cases hc : rd q (i : Int) > rd p (i : Int)
            · refine ⟨false, ?_, ?_⟩
              · refine Ev.step (fun k => by rw [spec_IsInside.l0]) ?_
                exact ev_pos (by omega) (ev_pos (by omega) (ev_pos (by omega) (ev_pos hc (ev_val rfl))))
              · constructor
                · intro h; cases h
                · intro h; have := h i (Nat.le_refl _) hi; omega
            · refine ⟨b, ?_, ?_⟩
              · refine Ev.step (fun k => by rw [spec_IsInside.l0]) ?_
                refine ev_pos (by omega) (ev_pos (by omega) (ev_pos (by omega) (ev_neg hc ?_)))
                rw [wrap_succ (by omega)]; exact hb
              · rw [hiff]
                constructor
                · intro h j a c
                  by_cases e : j = i
                  · subst e; omega
                  · exact h j (by omega) c
                · intro h j a c; exact h j (by omega) c
        obtain ⟨b, hb, hiff⟩ := key 0 (by omega)
        refine ev_eq hb ?_
        rw [Bool.eq_iff_iff, hiff, inside_all q p 0]
        exact ⟨fun h j hj => h j (by omega) hj, fun h j _ hj => h j hj⟩
    · simp only [Bool.not_eq_true] at h2
      rw [h1, h2]
      refine Ev.step (fun k => by rw [spec_IsInside.j0]) ?_; exact ev_pos rfl (ev_val rfl)
  · simp only [Bool.not_eq_true] at h1
    rw [h1]
    refine Ev.step (fun k => by rw [spec_IsInside.j0]) ?_; exact ev_pos rfl (ev_val rfl)
theorem impl_IsShape_ev (o n : List Int) (ho : o.length ≤ 1048576) (hn : n.length ≤ 1048576) : Ev (fun k => impl_IsShape.f k o n) (isInside n o) := by
  unfold impl_IsShape.f
  exact Ev.bind (impl_IsInside_ev n o hn ho) (ev_val rfl)
theorem spec_IsShape_ev (o n : List Int) (ho : o.length ≤ 1048576) (hn : n.length ≤ 1048576) : Ev (fun k => spec_IsShape.f k o n) (isInside n o) := by
  unfold spec_IsShape.f
  exact Ev.bind (spec_IsInside_ev n o hn ho) (ev_val rfl)
end Go.Proofs.Ytljjjdgnpnnmoaa.Q

set_option linter.unusedVariables false
set_option linter.unusedSimpArgs false
namespace Go.Proofs.Ytljjjdgnpnnmoaa.Q
open Go.RowKit Go.Proofs.Ytljjjdgnpnnmoaa.F Go.Proofs.YtljjjdgnpnnmoaaW.PrintWords Go.Proofs.YtljjjdgnpnnmoaaW.PrintLast Go.Proofs.YtljjjdgnpnnmoaaW.PrintMore
def reachOf (n : List Int) (m : List (List Int)) (i : Nat) : Int := at0 n (i : Int) + ((rd_L1 m (i : Int)).length : Int)
def outerOf (n : List Int) (m : List (List Int)) : List Int := (List.range m.length).map (reachOf n m)
def hasShape (n : List Int) (m : List (List Int)) : Bool := isPartition n && decide (n.length ≤ m.length) && isInside n (outerOf n m)
def shapeOf (n : List Int) (m : List (List Int)) : List Int × List Int × Bool := if hasShape n m then (outerOf n m, n, true) else ([], [], false)
theorem outerOf_length (n : List Int) (m : List (List Int)) : (outerOf n m).length = m.length := by simp [outerOf]
theorem outerOf_rd (n : List Int) (m : List (List Int)) (i : Nat) (h : i < m.length) : rd (outerOf n m) (i : Int) = at0 n (i : Int) + ((rd_L1 m (i : Int)).length : Int) := by
  rw [rd_eq _ i (by rw [outerOf_length]; exact h)]
  simp [outerOf, reachOf]
theorem at0_bd {n : List Int} (h : isPartition n = true) (i : Int) : 0 ≤ at0 n i ∧ at0 n i ≤ 9 := by
  have hb := (isPartition_bd h).2.2
  unfold at0
  split
  · rename_i hi
    obtain ⟨j, rfl⟩ : ∃ j : Nat, i = (j : Int) := ⟨i.toNat, by omega⟩
    have := hb _ (rd_mem n j (by omega))
    omega
  · omega
theorem hasShape_bd {n : List Int} {m : List (List Int)} (h : hasShape n m = true) : isPartition n = true ∧ n.length ≤ m.length ∧ m.length ≤ 9 ∧ isPartition (outerOf n m) = true ∧ (∀ i, i < m.length → 1 ≤ at0 n (i : Int) + ((rd_L1 m (i : Int)).length : Int) ∧ at0 n (i : Int) + ((rd_L1 m (i : Int)).length : Int) ≤ 9) := by
  unfold hasShape at h
  simp only [Bool.and_eq_true, decide_eq_true_eq] at h
  obtain ⟨⟨h1, h2⟩, h3⟩ := h
  obtain ⟨_, h4, _, _⟩ := isInside_len h3
  obtain ⟨_, g2, g3⟩ := isPartition_bd h4
  rw [outerOf_length] at g2
  refine ⟨h1, h2, g2, h4, fun i hi => ?_⟩
  have := g3 _ (rd_mem (outerOf n m) i (by rw [outerOf_length]; exact hi))
  rw [outerOf_rd n m i hi] at this
  exact this
theorem range_snoc' (n : List Int) (m : List (List Int)) (i : Nat) : (List.range (i + 1)).map (reachOf n m) = (List.range i).map (reachOf n m) ++ [reachOf n m i] := by simp [List.range_succ]
theorem impl_ShapeOf_ev (n : List Int) (m : List (List Int)) (hn : n.length ≤ 1048576) (hm : m.length ≤ 1048576) (hr : ∀ r ∈ m, r.length ≤ 1048576) : Ev (fun k => impl_ShapeOf.f k n m) (shapeOf n m) := by
  unfold impl_ShapeOf.f
  refine Ev.bind (impl_IsPartition_ev n hn) (ev_ite (fun h1 => ?_) (fun h1 => ?_))
  · refine Ev.step (fun k => by rw [impl_ShapeOf.j0]) ?_
    by_cases h2 : n.length ≤ m.length
    · refine ev_neg (by simpa using h2) (ev_bindc (b := n) (by unfold slices_Clone_int_int.f; rw [if_pos (by omega)]) ?_)
      have key : ∀ i, i ≤ m.length → Ev (fun k => impl_ShapeOf.l0 k m (m.length : Int) (i : Int) n m ((List.range i).map (reachOf n m)) n) (shapeOf n m) := by
        refine downTo m.length ?_ ?_
        · refine Ev.step (fun k => by rw [impl_ShapeOf.l0]) ?_
          refine ev_neg (by omega) (Ev.bind (impl_IsShape_ev (outerOf n m) n (by rw [outerOf_length]; omega) hn) (ev_ite (fun h3 => ?_) (fun h3 => ?_)))
          · refine ev_val ?_
            unfold shapeOf hasShape
            rw [h1, h3, decide_eq_true h2]; rfl
          · simp only [Bool.not_eq_true] at h3
            refine ev_val ?_
            unfold shapeOf hasShape
            rw [h3, Bool.and_false]; rfl
        · intro i hi ih
          have hb := at0_bd h1 (i : Int)
          have hl := hr _ (rows_mem m i hi)
          refine Ev.step (fun k => by rw [impl_ShapeOf.l0]) ?_
          refine ev_pos (by omega) (ev_pos (by omega) (ev_pos (by omega) (ev_bindc (impl_at_eq n _ hn) (ev_pos (by simp; omega) ?_))))
          rw [wrap_succ (by omega), wrap_id (by omega) (by omega)]
          rw [range_snoc', reachOf] at ih
          exact ih
      exact key 0 (by omega)
    · refine ev_pos (by simpa using h2) (ev_val ?_)
      unfold shapeOf hasShape
      rw [decide_eq_false h2, Bool.and_false]; rfl
  · simp only [Bool.not_eq_true] at h1
    refine Ev.step (fun k => by rw [impl_ShapeOf.j0]) ?_
    refine ev_pos rfl (ev_val ?_)
    unfold shapeOf hasShape
    rw [h1]; rfl
theorem spec_ShapeOf_ev (n : List Int) (m : List (List Int)) (hn : n.length ≤ 1048576) (hm : m.length ≤ 1048576) (hr : ∀ r ∈ m, r.length ≤ 1048576) : Ev (fun k => spec_ShapeOf.f k n m) (shapeOf n m) := by
  have hfalse : ∀ c : Bool, c = true → shapeOf n m = ([], [], false) → Ev (fun k => spec_ShapeOf.j0 k c n m n) (shapeOf n m) := by
    intro c hc hs
    refine Ev.step (fun k => by rw [spec_ShapeOf.j0]) ?_
    exact ev_pos hc (ev_val hs.symm)
  unfold spec_ShapeOf.f
  refine ev_bindc rfl (ev_pos (by simp; omega) (ev_bindc (b := n) (by simp) (Ev.bind (spec_IsPartition_ev n hn) (ev_ite (fun h1 => ev_ite (fun h2 => ?_) (fun h2 => ?_)) (fun h1 => ?_)))))
  · refine hfalse true rfl ?_
    unfold shapeOf hasShape
    rw [decide_eq_false (by omega), Bool.and_false]; rfl
  · by_cases h9 : (m.length : Int) > 9
    · refine hfalse _ (decide_eq_true h9) ?_
      unfold shapeOf
      rw [if_neg]
      intro h
      have := (hasShape_bd h).2.2.1
      omega
    · refine Ev.step (fun k => by rw [spec_ShapeOf.j0]) ?_
      refine ev_neg (by simpa using h9) ?_
      have key : ∀ i, i ≤ m.length → Ev (fun k => spec_ShapeOf.l0 k (i : Int) n m ((List.range i).map (reachOf n m)) n) (shapeOf n m) := by
        refine downTo m.length ?_ ?_
        · refine Ev.step (fun k => by rw [spec_ShapeOf.l0]) ?_
          refine ev_neg (by omega) (Ev.bind (spec_IsShape_ev (outerOf n m) n (by rw [outerOf_length]; omega) hn) (ev_ite (fun h3 => ?_) (fun h3 => ?_)))
          · refine ev_val ?_
            unfold shapeOf hasShape
            rw [h1, h3, decide_eq_true (show n.length ≤ m.length by omega)]; rfl
          · simp only [Bool.not_eq_true] at h3
            refine ev_val ?_
            unfold shapeOf hasShape
            rw [h3, Bool.and_false]; rfl
        · intro i hi ih
          have hb := at0_bd h1 (i : Int)
          have hl := hr _ (rows_mem m i hi)
          refine Ev.step (fun k => by rw [spec_ShapeOf.l0]) ?_
          refine ev_pos (by omega) (ev_bindc (spec_l2At_eq n _) (ev_pos (by omega) (ev_pos (by simp; omega) ?_)))
          rw [wrap_succ (by omega), wrap_id (by omega) (by omega)]
          rw [range_snoc', reachOf] at ih
          exact ih
      exact key 0 (by omega)
  · simp only [Bool.not_eq_true] at h1
    refine hfalse true rfl ?_
    unfold shapeOf hasShape
    rw [h1]; rfl
end Go.Proofs.Ytljjjdgnpnnmoaa.Q

set_option linter.unusedVariables false
set_option linter.unusedSimpArgs false
namespace Go.Proofs.Ytljjjdgnpnnmoaa.Q
open Go.RowKit Go.Proofs.Ytljjjdgnpnnmoaa.F Go.Proofs.YtljjjdgnpnnmoaaW.PrintWords Go.Proofs.YtljjjdgnpnnmoaaW.PrintLast Go.Proofs.YtljjjdgnpnnmoaaW.PrintMore
def entryOf (n : List Int) (m : List (List Int)) (r c : Int) : Int := if 0 ≤ r ∧ r < (m.length : Int) then at0 (rd_L1 m r) (c - at0 n r) else 0
theorem impl_entry_eq (n : List Int) (m : List (List Int)) (r c : Int) (h1 : isPartition n = true) (hm : m.length ≤ 1048576) (hr : ∀ q ∈ m, q.length ≤ 1048576) (hc : -1000 ≤ c) (hc2 : c ≤ 2097152) : impl_Tableau_entry.f n m r c = some (entryOf n m r c) := by
  have hn := (isPartition_bd h1).2.1
  have hb := at0_bd h1 r
  unfold impl_Tableau_entry.f entryOf
  rw [wrap_id (by omega) (by omega), impl_within_eq]
  simp only [Option.bind_some]
  by_cases h : 0 ≤ r ∧ r < (m.length : Int)
  · obtain ⟨j, rfl⟩ : ∃ j : Nat, r = (j : Int) := ⟨r.toNat, by omega⟩
    rw [if_pos h, if_pos (by rw [decide_eq_true_eq]; omega), if_pos h.1, if_pos h.2, impl_at_eq n _ (by omega)]
    simp only [Option.bind_some]
    rw [wrap_id (by omega) (by omega), impl_at_eq _ _ (hr _ (rows_mem m j (by omega)))]
    rfl
  · rw [if_neg h, if_neg (by rw [decide_eq_true_eq]; omega)]
theorem spec_entry_ev (n : List Int) (m : List (List Int)) (r c : Int) (h1 : isPartition n = true) (hc : -1000 ≤ c) (hc2 : c ≤ 2097152) : Ev (fun k => spec_l5Entry.f k n m r c) (entryOf n m r c) := by
  have hb := at0_bd h1 r
  unfold spec_l5Entry.f entryOf
  refine ev_ite (fun h => ?_) (fun h => ?_)
  · refine Ev.step (fun k => by rw [spec_l5Entry.j0]) ?_
    exact ev_pos rfl (ev_val (by rw [if_neg (by omega)]))
  · refine Ev.step (fun k => by rw [spec_l5Entry.j0]) ?_
    refine ev_ite (fun h2 => ev_val ?_) (fun h2 => ?_)
    · rw [decide_eq_true_eq] at h2
      rw [if_neg (by omega)]
    · rw [decide_eq_true_eq] at h2
      rw [if_pos (by omega)]
      refine ev_bindc (spec_l2At_eq n r) ?_
      rw [wrap_id (by omega) (by omega)]
      unfold at0
      generalize rd_L1 m r = q
      generalize (if 0 ≤ r ∧ r < (n.length : Int) then rd n r else 0) = z
      refine ev_ite (fun h3 => ev_val (by rw [if_neg (by omega)])) (fun h3 => ev_pos (by omega) (ev_pos (by omega) (ev_ite (fun h4 => ev_val (by rw [if_neg (by omega)])) (fun h4 => ev_pos (by omega) (ev_pos (by omega) (ev_val (by rw [if_pos (by omega)])))))))
def CellOk (n : List Int) (m : List (List Int)) (i k : Nat) : Prop :=
  (1 ≤ rd (rd_L1 m (i : Int)) (k : Int) ∧ rd (rd_L1 m (i : Int)) (k : Int) ≤ 9) ∧ (0 < k → rd (rd_L1 m (i : Int)) ((k - 1 : Nat) : Int) ≤ rd (rd_L1 m (i : Int)) (k : Int)) ∧ (0 < i → entryOf n m ((i - 1 : Nat) : Int) (at0 n (i : Int) + k) < rd (rd_L1 m (i : Int)) (k : Int))
instance (n : List Int) (m : List (List Int)) (i k : Nat) : Decidable (CellOk n m i k) := by unfold CellOk; infer_instance
def isTab (n : List Int) (m : List (List Int)) : Bool := hasShape n m && (List.range m.length).all (fun i => (List.range (rd_L1 m (i : Int)).length).all (fun k => decide (CellOk n m i k)))
theorem isTab_iff {n : List Int} {m : List (List Int)} : isTab n m = true ↔ hasShape n m = true ∧ ∀ i, i < m.length → ∀ k, k < (rd_L1 m (i : Int)).length → CellOk n m i k := by
  unfold isTab
  rw [Bool.and_eq_true, List.all_eq_true]
  constructor
  · rintro ⟨h1, h2⟩
    refine ⟨h1, fun i hi k hk => ?_⟩
    have := h2 i (List.mem_range.2 hi)
    rw [List.all_eq_true] at this
    simpa using this k (List.mem_range.2 hk)
  · rintro ⟨h1, h2⟩
    refine ⟨h1, fun i hi => ?_⟩
    rw [List.all_eq_true]
    intro k hk
    simpa using h2 i (List.mem_range.1 hi) k (List.mem_range.1 hk)
theorem impl_IsTableau_l1 (n : List Int) (m : List (List Int)) (hs : hasShape n m = true) (hr : ∀ q ∈ m, q.length ≤ 1048576) (i : Nat) (hi : i < m.length) (b : Bool)
    (hnext : Ev (fun k => impl_IsTableau.l0 k m (m.length : Int) ((i + 1 : Nat) : Int) n m) b) :
    ∀ j, j ≤ (rd_L1 m (i : Int)).length → ∃ b', Ev (fun k => impl_IsTableau.l1 k (i : Int) (rd_L1 m (i : Int)) m (m.length : Int) (i : Int) (rd_L1 m (i : Int)) ((rd_L1 m (i : Int)).length : Int) (j : Int) n m) b' ∧ (b' = true ↔ (∀ k, j ≤ k → k < (rd_L1 m (i : Int)).length → CellOk n m i k) ∧ b = true) := by
  obtain ⟨h1, h2, h3, _, h5⟩ := hasShape_bd hs
  have hlen := hr _ (rows_mem m i hi)
  have hrow := h5 i hi
  have hb := at0_bd h1 (i : Int)
  refine downTo _ ?_ ?_
  · refine ⟨b, ?_, ?_⟩
    · refine Ev.step (fun k => by rw [impl_IsTableau.l1]) ?_
      refine ev_neg (by omega) ?_
      rw [wrap_succ (by omega)]; exact hnext
    · constructor
      · intro h; exact ⟨fun k a c => by omega, h⟩
      · intro h; exact h.2
  · rintro j hj ⟨b', hb', hiff⟩
    have hcell : (∀ k, j ≤ k → k < (rd_L1 m (i : Int)).length → CellOk n m i k) ↔ CellOk n m i j ∧ ∀ k, j + 1 ≤ k → k < (rd_L1 m (i : Int)).length → CellOk n m i k := by
      constructor
      · intro h; exact ⟨h j (Nat.le_refl _) hj, fun k a c => h k (by omega) c⟩
      · rintro ⟨h, h'⟩ k a c
        by_cases e : k = j
        · subst e; exact h
        · exact h' k (by omega) c
    have hup : wrap64 ((i : Int) - 1) = (i : Int) - 1 := wrap_id (by omega) (by omega)
    have hcol : wrap64 (at0 n (i : Int) + (j : Int)) = at0 n (i : Int) + j := wrap_id (by omega) (by omega)
    have tail : Ev (fun k => impl_IsTableau.l1 k (i : Int) (rd_L1 m (i : Int)) m (m.length : Int) (i : Int) (rd_L1 m (i : Int)) ((rd_L1 m (i : Int)).length : Int) (wrap64 ((j : Int) + 1)) n m) b' := by
      rw [wrap_succ (by omega)]; exact hb'
    by_cases c1 : 1 ≤ rd (rd_L1 m (i : Int)) (j : Int) ∧ rd (rd_L1 m (i : Int)) (j : Int) ≤ 9
    · by_cases c2 : 0 < j → rd (rd_L1 m (i : Int)) ((j - 1 : Nat) : Int) ≤ rd (rd_L1 m (i : Int)) (j : Int)
      · by_cases c3 : 0 < i → entryOf n m ((i - 1 : Nat) : Int) (at0 n (i : Int) + j) < rd (rd_L1 m (i : Int)) (j : Int)
        · refine ⟨b', ?_, ?_⟩
          · refine Ev.step (fun k => by rw [impl_IsTableau.l1]) ?_
            refine ev_pos (by omega) (ev_pos (by omega) (ev_pos (by omega) (ev_bindc (impl_within_eq _ _ _) (ev_pos (decide_eq_true c1) ?_))))
            have up : Ev (fun k => if (i : Int) > 0 then ((impl_at.f n (i : Int)).bind fun t222 => ((impl_Tableau_entry.f n m (wrap64 ((i : Int) - 1)) (wrap64 (t222 + (j : Int)))).bind fun t223 => (if (rd (rd_L1 m (i : Int)) (j : Int)) ≤ t223 then (some false) else (impl_IsTableau.l1 k (i : Int) (rd_L1 m (i : Int)) m (m.length : Int) (i : Int) (rd_L1 m (i : Int)) ((rd_L1 m (i : Int)).length : Int) (wrap64 ((j : Int) + 1)) n m)))) else (impl_IsTableau.l1 k (i : Int) (rd_L1 m (i : Int)) m (m.length : Int) (i : Int) (rd_L1 m (i : Int)) ((rd_L1 m (i : Int)).length : Int) (wrap64 ((j : Int) + 1)) n m)) b' := by
              refine ev_ite (fun hp => ?_) (fun _ => tail)
              refine ev_bindc (impl_at_eq n _ (by omega)) ?_
              rw [hup, hcol]
              refine ev_bindc (impl_entry_eq n m _ _ h1 (by omega) hr (by omega) (by omega)) (ev_neg ?_ tail)
              have := c3 (by omega)
              rw [show ((i - 1 : Nat) : Int) = (i : Int) - 1 by omega] at this
              omega
            by_cases hj0 : (j : Int) > 0
            · have e : wrap64 ((j : Int) - 1) = ((j - 1 : Nat) : Int) := by unfold wrap64; omega
              rw [e]
              have := c2 (by omega)
              exact ev_pos hj0 (ev_pos (by omega) (ev_pos (by omega) (ev_neg (by omega) up)))
            · exact ev_neg hj0 up
          · rw [hiff, hcell]
            constructor
            · rintro ⟨g1, g2⟩; exact ⟨⟨⟨c1, c2, c3⟩, g1⟩, g2⟩
            · rintro ⟨⟨_, g1⟩, g2⟩; exact ⟨g1, g2⟩
        · have hi0 : 0 < i := Classical.byContradiction fun h => c3 (fun h' => absurd h' h)
          have hge : ¬ entryOf n m ((i - 1 : Nat) : Int) (at0 n (i : Int) + j) < rd (rd_L1 m (i : Int)) (j : Int) := fun h => c3 (fun _ => h)
          refine ⟨false, ?_, ?_⟩
          · refine Ev.step (fun k => by rw [impl_IsTableau.l1]) ?_
            refine ev_pos (by omega) (ev_pos (by omega) (ev_pos (by omega) (ev_bindc (impl_within_eq _ _ _) (ev_pos (decide_eq_true c1) ?_))))
            have up : Ev (fun k => if (i : Int) > 0 then ((impl_at.f n (i : Int)).bind fun t222 => ((impl_Tableau_entry.f n m (wrap64 ((i : Int) - 1)) (wrap64 (t222 + (j : Int)))).bind fun t223 => (if (rd (rd_L1 m (i : Int)) (j : Int)) ≤ t223 then (some false) else (impl_IsTableau.l1 k (i : Int) (rd_L1 m (i : Int)) m (m.length : Int) (i : Int) (rd_L1 m (i : Int)) ((rd_L1 m (i : Int)).length : Int) (wrap64 ((j : Int) + 1)) n m)))) else (impl_IsTableau.l1 k (i : Int) (rd_L1 m (i : Int)) m (m.length : Int) (i : Int) (rd_L1 m (i : Int)) ((rd_L1 m (i : Int)).length : Int) (wrap64 ((j : Int) + 1)) n m)) false := by
              refine ev_pos (by omega) (ev_bindc (impl_at_eq n _ (by omega)) ?_)
              rw [hup, hcol]
              refine ev_bindc (impl_entry_eq n m _ _ h1 (by omega) hr (by omega) (by omega)) (ev_pos ?_ (ev_val rfl))
              rw [show ((i - 1 : Nat) : Int) = (i : Int) - 1 by omega] at hge
              omega
            by_cases hj0 : (j : Int) > 0
            · have e : wrap64 ((j : Int) - 1) = ((j - 1 : Nat) : Int) := by unfold wrap64; omega
              rw [e]
              have := c2 (by omega)
              exact ev_pos hj0 (ev_pos (by omega) (ev_pos (by omega) (ev_neg (by omega) up)))
            · exact ev_neg hj0 up
          · rw [hcell]
            constructor
            · intro h; cases h
            · rintro ⟨⟨⟨_, _, g⟩, _⟩, _⟩; exact absurd g c3
      · have hj0 : 0 < j := Classical.byContradiction fun h => c2 (fun h' => absurd h' h)
        have hlt : ¬ rd (rd_L1 m (i : Int)) ((j - 1 : Nat) : Int) ≤ rd (rd_L1 m (i : Int)) (j : Int) := fun h => c2 (fun _ => h)
        refine ⟨false, ?_, ?_⟩
        · refine Ev.step (fun k => by rw [impl_IsTableau.l1]) ?_
          have e : wrap64 ((j : Int) - 1) = ((j - 1 : Nat) : Int) := by unfold wrap64; omega
          rw [e]
          exact ev_pos (by omega) (ev_pos (by omega) (ev_pos (by omega) (ev_bindc (impl_within_eq _ _ _) (ev_pos (decide_eq_true c1) (ev_pos (by omega) (ev_pos (by omega) (ev_pos (by omega) (ev_pos (by omega) (ev_val rfl)))))))))
        · rw [hcell]
          constructor
          · intro h; cases h
          · rintro ⟨⟨⟨_, g, _⟩, _⟩, _⟩; exact absurd g c2
    · refine ⟨false, ?_, ?_⟩
      · refine Ev.step (fun k => by rw [impl_IsTableau.l1]) ?_
        exact ev_pos (by omega) (ev_pos (by omega) (ev_pos (by omega) (ev_bindc (impl_within_eq _ _ _) (ev_neg (by rw [decide_eq_true_eq]; exact c1) (ev_val rfl)))))
      · rw [hcell]
        constructor
        · intro h; cases h
        · rintro ⟨⟨⟨g, _, _⟩, _⟩, _⟩; exact absurd g c1
theorem impl_IsTableau_ev (n : List Int) (m : List (List Int)) (hn : n.length ≤ 1048576) (hm : m.length ≤ 1048576) (hr : ∀ r ∈ m, r.length ≤ 1048576) : Ev (fun k => impl_IsTableau.f k n m) (isTab n m) := by
  unfold impl_IsTableau.f
  refine Ev.bind (impl_ShapeOf_ev n m hn hm hr) ?_
  by_cases hs : hasShape n m = true
  · rw [show shapeOf n m = (outerOf n m, n, true) by unfold shapeOf; rw [if_pos hs]]
    refine ev_pos rfl ?_
    have key : ∀ i, i ≤ m.length → ∃ b, Ev (fun k => impl_IsTableau.l0 k m (m.length : Int) (i : Int) n m) b ∧ (b = true ↔ ∀ i', i ≤ i' → i' < m.length → ∀ k, k < (rd_L1 m (i' : Int)).length → CellOk n m i' k) := by
      refine downTo m.length ?_ ?_
      · refine ⟨true, ?_, by simp; intro i' a b; omega⟩
        refine Ev.step (fun k => by rw [impl_IsTableau.l0]) ?_
        exact ev_neg (by omega) (ev_val rfl)
      · rintro i hi ⟨b, hb, hiff⟩
        obtain ⟨b', hb', hiff'⟩ := impl_IsTableau_l1 n m hs hr i hi b hb 0 (by omega)
        refine ⟨b', ?_, ?_⟩
        · refine Ev.step (fun k => by rw [impl_IsTableau.l0]) ?_
          exact ev_pos (by omega) (ev_pos (by omega) (ev_pos (by omega) hb'))
        · rw [hiff', hiff]
          constructor
          · rintro ⟨g1, g2⟩ i' a c k hk
            by_cases e : i' = i
            · subst e; exact g1 k (by omega) hk
            · exact g2 i' (by omega) c k hk
          · intro g; exact ⟨fun k _ hk => g i (Nat.le_refl _) hi k hk, fun i' a c k hk => g i' (by omega) c k hk⟩
    obtain ⟨b, hb, hiff⟩ := key 0 (by omega)
    refine ev_eq hb ?_
    rw [Bool.eq_iff_iff, hiff, isTab_iff]
    exact ⟨fun g => ⟨hs, fun i hi k hk => g i (by omega) hi k hk⟩, fun g i _ hi k hk => g.2 i hi k hk⟩
  · rw [show shapeOf n m = ([], [], false) by unfold shapeOf; rw [if_neg hs]]
    refine ev_neg (by simp) (ev_val ?_)
    simp only [Bool.not_eq_true] at hs
    unfold isTab; rw [hs]; rfl
theorem entryOf_cell (n : List Int) (m : List (List Int)) (i j : Nat) (hi : i < m.length) (hj : j < (rd_L1 m (i : Int)).length) : entryOf n m (i : Int) (at0 n (i : Int) + j) = rd (rd_L1 m (i : Int)) (j : Int) := by
  unfold entryOf
  rw [if_pos (by omega), show at0 n (i : Int) + (j : Int) - at0 n (i : Int) = (j : Int) by omega, at0_nat _ j hj]
theorem entryOf_left (n : List Int) (m : List (List Int)) (i j : Nat) (hi : i < m.length) (hj : j < (rd_L1 m (i : Int)).length) : entryOf n m (i : Int) (at0 n (i : Int) + j - 1) = if 0 < j then rd (rd_L1 m (i : Int)) ((j - 1 : Nat) : Int) else 0 := by
  unfold entryOf
  rw [if_pos (by omega)]
  by_cases h : 0 < j
  · rw [if_pos h, show at0 n (i : Int) + (j : Int) - 1 - at0 n (i : Int) = ((j - 1 : Nat) : Int) by omega, at0_nat _ (j - 1) (by omega)]
  · rw [if_neg h, at0_out _ _ (.inl (by omega))]
theorem spec_IsTableau_l1 (n : List Int) (m : List (List Int)) (hs : hasShape n m = true) (i : Nat) (hi : i < m.length) (b : Bool)
    (hnext : Ev (fun k => spec_IsTableau.l0 k ((i + 1 : Nat) : Int) n m (outerOf n m) n) b) :
    ∀ j, j ≤ (rd_L1 m (i : Int)).length → ∃ b', Ev (fun k => spec_IsTableau.l1 k (i : Int) (at0 n (i : Int) + (j : Int)) n m (outerOf n m) n) b' ∧ (b' = true ↔ (∀ k, j ≤ k → k < (rd_L1 m (i : Int)).length → CellOk n m i k) ∧ b = true) := by
  obtain ⟨h1, h2, h3, _, h5⟩ := hasShape_bd hs
  have hrow := h5 i hi
  have hb := at0_bd h1 (i : Int)
  have hol := outerOf_length n m
  have hor := outerOf_rd n m i hi
  refine downTo _ ?_ ?_
  · refine ⟨b, ?_, ?_⟩
    · refine Ev.step (fun k => by rw [spec_IsTableau.l1]) ?_
      refine ev_pos (by omega) (ev_pos (by omega) (ev_neg (by omega) ?_))
      rw [wrap_succ (by omega)]; exact hnext
    · constructor
      · intro h; exact ⟨fun k a c => by omega, h⟩
      · intro h; exact h.2
  · rintro j hj ⟨b', hb', hiff⟩
    have hcell : (∀ k, j ≤ k → k < (rd_L1 m (i : Int)).length → CellOk n m i k) ↔ CellOk n m i j ∧ ∀ k, j + 1 ≤ k → k < (rd_L1 m (i : Int)).length → CellOk n m i k := by
      constructor
      · intro h; exact ⟨h j (Nat.le_refl _) hj, fun k a c => h k (by omega) c⟩
      · rintro ⟨h, h'⟩ k a c
        by_cases e : k = j
        · subst e; exact h
        · exact h' k (by omega) c
    have hx := entryOf_cell n m i j hi hj
    have hleft := entryOf_left n m i j hi hj
    have hup : wrap64 ((i : Int) - 1) = (i : Int) - 1 := wrap_id (by omega) (by omega)
    have hc1 : wrap64 (at0 n (i : Int) + (j : Int) - 1) = at0 n (i : Int) + j - 1 := wrap_id (by omega) (by omega)
    have hc2 : wrap64 (at0 n (i : Int) + (j : Int) + 1) = at0 n (i : Int) + ((j + 1 : Nat) : Int) := by rw [wrap_id (by omega) (by omega)]; omega
    have hj2 : ∀ left : Int, left = (if 0 < j then rd (rd_L1 m (i : Int)) ((j - 1 : Nat) : Int) else 0) → ∃ v, Ev (fun k => spec_IsTableau.j2 k (i : Int) (at0 n (i : Int) + (j : Int)) (rd (rd_L1 m (i : Int)) (j : Int)) left n m (outerOf n m) n) v ∧ (v = true ↔ (∀ k, j ≤ k → k < (rd_L1 m (i : Int)).length → CellOk n m i k) ∧ b = true) := by
      intro left hl
      rw [hcell]
      by_cases c1 : 1 ≤ rd (rd_L1 m (i : Int)) (j : Int) ∧ rd (rd_L1 m (i : Int)) (j : Int) ≤ 9
      · by_cases c2 : left > rd (rd_L1 m (i : Int)) (j : Int)
        · refine ⟨false, ?_, ?_⟩
          · refine Ev.step (fun k => by rw [spec_IsTableau.j2]) ?_
            exact ev_bindc (spec_l1In_eq _ _ _) (ev_pos (decide_eq_true c1) (ev_pos c2 (ev_val rfl)))
          · constructor
            · intro h; cases h
            · rintro ⟨⟨⟨_, g, _⟩, _⟩, _⟩
              exfalso
              by_cases hj0 : 0 < j
              · rw [if_pos hj0] at hl; have := g hj0; omega
              · rw [if_neg hj0] at hl; omega
        · by_cases c3 : entryOf n m ((i : Int) - 1) (at0 n (i : Int) + j) ≥ rd (rd_L1 m (i : Int)) (j : Int)
          · refine ⟨false, ?_, ?_⟩
            · refine Ev.step (fun k => by rw [spec_IsTableau.j2]) ?_
              rw [hup]
              exact ev_bindc (spec_l1In_eq _ _ _) (ev_pos (decide_eq_true c1) (ev_neg c2 (Ev.bind (spec_entry_ev n m _ _ h1 (by omega) (by omega)) (ev_pos c3 (ev_val rfl)))))
            · constructor
              · intro h; cases h
              · rintro ⟨⟨⟨_, _, g⟩, _⟩, _⟩
                exfalso
                by_cases hi0 : 0 < i
                · have := g hi0
                  rw [show ((i - 1 : Nat) : Int) = (i : Int) - 1 by omega] at this
                  omega
                · have : entryOf n m ((i : Int) - 1) (at0 n (i : Int) + j) = 0 := by unfold entryOf; rw [if_neg (by omega)]
                  omega
          · refine ⟨b', ?_, ?_⟩
            · refine Ev.step (fun k => by rw [spec_IsTableau.j2]) ?_
              rw [hup, hc2]
              exact ev_bindc (spec_l1In_eq _ _ _) (ev_pos (decide_eq_true c1) (ev_neg c2 (Ev.bind (spec_entry_ev n m _ _ h1 (by omega) (by omega)) (ev_neg c3 hb'))))
            · rw [hiff]
              constructor
              · rintro ⟨g1, g2⟩
                refine ⟨⟨⟨c1, fun hj0 => ?_, fun hi0 => ?_⟩, g1⟩, g2⟩
                · rw [if_pos hj0] at hl; omega
                · rw [show ((i - 1 : Nat) : Int) = (i : Int) - 1 by omega]; omega
              · rintro ⟨⟨_, g1⟩, g2⟩; exact ⟨g1, g2⟩
      · refine ⟨false, ?_, ?_⟩
        · refine Ev.step (fun k => by rw [spec_IsTableau.j2]) ?_
          exact ev_bindc (spec_l1In_eq _ _ _) (ev_neg (by rw [decide_eq_true_eq]; exact c1) (ev_val rfl))
        · constructor
          · intro h; cases h
          · rintro ⟨⟨⟨g, _, _⟩, _⟩, _⟩; exact absurd g c1
    obtain ⟨v, hv, hvi⟩ := hj2 _ rfl
    refine ⟨v, ?_, hvi⟩
    refine Ev.step (fun k => by rw [spec_IsTableau.l1]) ?_
    rw [hc1]
    have e1 := spec_entry_ev n m (i : Int) (at0 n (i : Int) + j) h1 (by omega) (by omega)
    rw [hx] at e1
    refine ev_pos (by omega) (ev_pos (by omega) (ev_pos (by omega) (Ev.bind e1 (ev_ite (fun hp => ?_) (fun hp => ?_)))))
    · have e2 := spec_entry_ev n m (i : Int) (at0 n (i : Int) + j - 1) h1 (by omega) (by omega)
      rw [hleft] at e2
      exact Ev.bind e2 hv
    · have : (if 0 < j then rd (rd_L1 m (i : Int)) ((j - 1 : Nat) : Int) else 0) = 0 := by rw [if_neg (by omega)]
      rw [this] at hv
      exact hv
theorem spec_IsTableau_ev (n : List Int) (m : List (List Int)) (hn : n.length ≤ 1048576) (hm : m.length ≤ 1048576) (hr : ∀ r ∈ m, r.length ≤ 1048576) : Ev (fun k => spec_IsTableau.f k n m) (isTab n m) := by
  unfold spec_IsTableau.f
  refine Ev.bind (spec_ShapeOf_ev n m hn hm hr) ?_
  by_cases hs : hasShape n m = true
  · rw [show shapeOf n m = (outerOf n m, n, true) by unfold shapeOf; rw [if_pos hs]]
    refine ev_pos rfl ?_
    have hol := outerOf_length n m
    have key : ∀ i, i ≤ m.length → ∃ b, Ev (fun k => spec_IsTableau.l0 k (i : Int) n m (outerOf n m) n) b ∧ (b = true ↔ ∀ i', i ≤ i' → i' < m.length → ∀ k, k < (rd_L1 m (i' : Int)).length → CellOk n m i' k) := by
      refine downTo m.length ?_ ?_
      · refine ⟨true, ?_, by simp; intro i' a b; omega⟩
        refine Ev.step (fun k => by rw [spec_IsTableau.l0]) ?_
        exact ev_neg (by omega) (ev_val rfl)
      · rintro i hi ⟨b, hb, hiff⟩
        obtain ⟨b', hb', hiff'⟩ := spec_IsTableau_l1 n m hs i hi b hb 0 (by omega)
        refine ⟨b', ?_, ?_⟩
        · refine Ev.step (fun k => by rw [spec_IsTableau.l0]) ?_
          refine ev_pos (by omega) (ev_bindc (spec_l2At_eq n _) ?_)
          simpa using hb'
        · rw [hiff', hiff]
          constructor
          · rintro ⟨g1, g2⟩ i' a c k hk
            by_cases e : i' = i
            · subst e; exact g1 k (by omega) hk
            · exact g2 i' (by omega) c k hk
          · intro g; exact ⟨fun k _ hk => g i (Nat.le_refl _) hi k hk, fun i' a c k hk => g i' (by omega) c k hk⟩
    obtain ⟨b, hb, hiff⟩ := key 0 (by omega)
    refine ev_eq hb ?_
    rw [Bool.eq_iff_iff, hiff, isTab_iff]
    exact ⟨fun g => ⟨hs, fun i hi k hk => g i (by omega) hi k hk⟩, fun g i _ hi k hk => g.2 i hi k hk⟩
  · rw [show shapeOf n m = ([], [], false) by unfold shapeOf; rw [if_neg hs]]
    refine ev_neg (by simp) (ev_val ?_)
    simp only [Bool.not_eq_true] at hs
    unfold isTab; rw [hs]; rfl
end Go.Proofs.Ytljjjdgnpnnmoaa.Q

set_option linter.unusedVariables false
set_option linter.unusedSimpArgs false
namespace Go.Proofs.Ytljjjdgnpnnmoaa.Q
open Go.RowKit Go.Proofs.Ytljjjdgnpnnmoaa.F Go.Proofs.YtljjjdgnpnnmoaaW.PrintWords Go.Proofs.YtljjjdgnpnnmoaaW.PrintLast Go.Proofs.YtljjjdgnpnnmoaaW.PrintMore
theorem isTab_cells {n : List Int} {m : List (List Int)} (h : isTab n m = true) : m.length ≤ 9 ∧ (∀ r ∈ m, r.length ≤ 9) ∧ ∀ x ∈ m.flatten, 1 ≤ x ∧ x ≤ 9 := by
  obtain ⟨hs, hc⟩ := isTab_iff.1 h
  obtain ⟨h1, _, h3, _, h5⟩ := hasShape_bd hs
  have hr : ∀ r ∈ m, r.length ≤ 9 := by
    intro r hr
    obtain ⟨i, hi, rfl⟩ := List.mem_iff_getElem.1 hr
    have := h5 i hi
    rw [rows_eq m i hi] at this
    have := at0_bd h1 (i : Int)
    omega
  refine ⟨h3, hr, ?_⟩
  intro x hx
  obtain ⟨r, hrm, hxr⟩ := List.mem_flatten.1 hx
  obtain ⟨i, hi, rfl⟩ := List.mem_iff_getElem.1 hrm
  obtain ⟨j, hj, rfl⟩ := List.mem_iff_getElem.1 hxr
  have := (hc i hi j (by rw [rows_eq m i hi]; exact hj)).1
  rw [rows_eq m i hi, rd_eq _ j hj] at this
  exact this
end Go.Proofs.Ytljjjdgnpnnmoaa.Q

set_option linter.unusedVariables false
set_option linter.unusedSimpArgs false
namespace Go.Proofs.Ytljjjdgnpnnmoaa.Q
open Go.RowKit Go.Proofs.Ytljjjdgnpnnmoaa.F Go.Proofs.YtljjjdgnpnnmoaaW.PrintWords Go.Proofs.YtljjjdgnpnnmoaaW.PrintLast Go.Proofs.YtljjjdgnpnnmoaaW.PrintMore
theorem partOk_desc {l : List Int} : ∀ {prev s : Int}, partOk prev s l = true → l.Pairwise (fun a b => b ≤ a) ∧ ∀ x ∈ l, x ≤ prev := by
  induction l with
  | nil => intro prev s _; simp
  | cons x l ih =>
    intro prev s hp
    simp only [partOk, Bool.and_eq_true, decide_eq_true_eq] at hp
    obtain ⟨⟨⟨_, h2⟩, _⟩, h4⟩ := hp
    obtain ⟨g1, g2⟩ := ih h4
    refine ⟨List.pairwise_cons.2 ⟨g2, g1⟩, fun y hy => ?_⟩
    rcases List.mem_cons.1 hy with rfl | hy
    · exact h2
    · have := g2 y hy; omega
theorem outerOf_nil (m : List (List Int)) : outerOf [] m = m.map (fun r => (r.length : Int)) := by
  refine List.ext_getElem (by rw [outerOf_length, List.length_map]) fun i h1 h2 => ?_
  rw [outerOf_length] at h1
  have := outerOf_rd [] m i h1
  rw [rd_eq _ i (by rw [outerOf_length]; exact h1), rows_eq m i h1, at0_out [] (i : Int) (.inr (by simp))] at this
  rw [this, List.getElem_map]
  omega
theorem isum_lens (m : List (List Int)) : isum (m.map (fun r => (r.length : Int))) = (m.flatten.length : Int) := by
  induction m with
  | nil => rfl
  | cons r m ih =>
    rw [List.map_cons, isum, ih, List.flatten_cons, List.length_append]
    omega
theorem plain_shape {m : List (List Int)} (h : isTab [] m = true) : Desc m ∧ (∀ r ∈ m, r ≠ []) ∧ m.flatten.length ≤ 9 := by
  obtain ⟨_, _, _, h4, _⟩ := hasShape_bd (isTab_iff.1 h).1
  rw [outerOf_nil] at h4
  obtain ⟨g1, _, g3⟩ := isPartition_bd h4
  rw [isum_lens] at g1
  refine ⟨?_, fun r hr e => ?_, by omega⟩
  · have := (partOk_desc h4).1
    rw [List.pairwise_map] at this
    exact this.imp (fun hab => by omega)
  · have := g3 (r.length : Int) (List.mem_map.2 ⟨r, hr, rfl⟩)
    subst e
    simp at this
theorem cols_pos {m : List (List Int)} (h : isTab [] m = true) : ∀ e ∈ cols m, ∀ v ∈ e, 1 ≤ v := by
  intro e he v hv
  obtain ⟨j, hj, rfl⟩ := List.mem_iff_getElem.1 he
  obtain ⟨i, hi, rfl⟩ := List.mem_iff_getElem.1 hv
  have h1 : at2 (cols m) j i = some ((cols m)[j][i]) := by
    unfold at2
    rw [List.getElem?_eq_getElem hj]
    simp
  rw [cols_at2 m (plain_shape h).1] at h1
  obtain ⟨g1, g2, g3⟩ := at2_lt h1
  rw [← g3]
  exact ((isTab_cells h).2.2 _ (List.mem_flatten.2 ⟨m[i], List.getElem_mem g1, List.getElem_mem g2⟩)).1
theorem rowInc_of : ∀ (C : List (List Int)), (∀ j, ∀ hj : j + 1 < C.length, ∀ k : Nat, k < C[j + 1].length → rd C[j] (k : Int) ≤ rd C[j + 1] (k : Int)) → RowInc C
  | [], _ => trivial
  | [_], _ => trivial
  | e :: e2 :: E, h => ⟨fun k hk => h 0 (by simp) k (by simpa using hk), rowInc_of (e2 :: E) (fun j hj k hk => by
      have := h (j + 1) (by simpa using hj) k (by simpa using hk)
      simpa using this)⟩
theorem cols_inc {m : List (List Int)} (h : isTab [] m = true) : RowInc (cols m) := by
  have hd := (plain_shape h).1
  have hc := (isTab_iff.1 h).2
  have hdc := desc_cols m hd
  unfold Desc at hdc
  rw [List.pairwise_iff_getElem] at hdc
  refine rowInc_of _ fun j hj k hk => ?_
  have hl := hdc j (j + 1) (by omega) hj (by omega)
  have h1 : at2 (cols m) (j + 1) k = some ((cols m)[j + 1][k]) := by
    unfold at2
    rw [List.getElem?_eq_getElem hj]
    simp
  have h2 : at2 (cols m) j k = some ((cols m)[j][k]'(by omega)) := by
    unfold at2
    rw [List.getElem?_eq_getElem (by omega)]
    simp
  rw [cols_at2 m hd] at h1 h2
  obtain ⟨g1, g2, g3⟩ := at2_lt h1
  obtain ⟨_, g5, g6⟩ := at2_lt h2
  rw [rd_eq _ k (by omega), rd_eq _ k hk, ← g3, ← g6]
  have := (hc k g1 (j + 1) (by rw [rows_eq m k g1]; exact g2)).2.1 (by omega)
  rw [rows_eq m k g1, show j + 1 - 1 = j by omega, rd_eq _ j g5, rd_eq _ (j + 1) g2] at this
  exact this
end Go.Proofs.Ytljjjdgnpnnmoaa.Q

set_option linter.unusedVariables false
set_option linter.unusedSimpArgs false
namespace Go.Proofs.Ytljjjdgnpnnmoaa.Q
open Go.RowKit Go.Proofs.Ytljjjdgnpnnmoaa.F Go.Proofs.YtljjjdgnpnnmoaaW.PrintWords Go.Proofs.YtljjjdgnpnnmoaaW.PrintLast Go.Proofs.YtljjjdgnpnnmoaaW.PrintMore
def plainT (n : List Int) (m : List (List Int)) : Bool := decide (n.length = 0) && isTab n m
theorem impl_isPlain_ev (n : List Int) (m : List (List Int)) (hn : n.length ≤ 1048576) (hm : m.length ≤ 1048576) (hb : bulk m ≤ 1048576) : Ev (fun k => impl_isPlain.f k n m) (plainT n m) := by
  have hr : ∀ r ∈ m, r.length ≤ 1048576 := fun r h => by have := bulk_mem h; omega
  unfold impl_isPlain.f plainT
  refine ev_ite (fun h => ?_) (fun h => ?_)
  · rw [decide_eq_true (show n.length = 0 by omega), Bool.true_and]
    exact Ev.bind (impl_IsTableau_ev n m hn hm hr) (ev_val rfl)
  · rw [decide_eq_false (show ¬ n.length = 0 by omega)]
    exact ev_val rfl
theorem spec_l9Plain_ev (n : List Int) (m : List (List Int)) (hn : n.length ≤ 1048576) (hm : m.length ≤ 1048576) (hb : bulk m ≤ 1048576) : Ev (fun k => spec_l9Plain.f k n m) (plainT n m) := by
  have hr : ∀ r ∈ m, r.length ≤ 1048576 := fun r h => by have := bulk_mem h; omega
  unfold spec_l9Plain.f plainT
  refine Ev.bind (spec_IsTableau_ev n m hn hm hr) (ev_ite (fun h => ev_val ?_) (fun h => ev_val ?_))
  · rw [h, Bool.and_true]
    by_cases h0 : n.length = 0
    · simp [h0]
    · simp [h0]
  · rw [Bool.not_eq_true] at h
    rw [h, Bool.and_false]
end Go.Proofs.Ytljjjdgnpnnmoaa.Q

set_option linter.unusedVariables false
set_option linter.unusedSimpArgs false
namespace Go.Proofs.Ytljjjdgnpnnmoaa.Q
open Go.RowKit Go.Proofs.Ytljjjdgnpnnmoaa.F Go.Proofs.YtljjjdgnpnnmoaaW.PrintWords Go.Proofs.YtljjjdgnpnnmoaaW.PrintLast Go.Proofs.YtljjjdgnpnnmoaaW.PrintMore
theorem impl_ReadingWord_ev (n : List Int) (m : List (List Int)) (hn : n.length ≤ 1048576) (hm : m.length ≤ 1048576) (hb : bulk m ≤ 1048576) : Ev (fun k => impl_ReadingWord.f k n m) (if isTab n m = true then readAll m else []) := by
  have hr : ∀ r ∈ m, r.length ≤ 1048576 := fun r h => by have := bulk_mem h; omega
  unfold impl_ReadingWord.f
  refine Ev.bind (impl_IsTableau_ev n m hn hm hr) (ev_ite (fun h => ?_) (fun h => ?_))
  · rw [if_pos h]
    refine ev_pos ?_ (ev_val rfl)
    have h1 := Nat.mul_le_mul hm (show m.flatten.length ≤ 1048576 by rw [flatten_bulk]; exact hb)
    omega
  · rw [if_neg h]
    exact ev_val rfl
theorem readAll_bulk (m : List (List Int)) : (readAll m).length = bulk m := by
  unfold readAll
  rw [← flatten_bulk, List.length_flatten, List.length_flatten, List.map_reverse, List.sum_reverse]
end Go.Proofs.Ytljjjdgnpnnmoaa.Q

set_option linter.unusedVariables false
set_option linter.unusedSimpArgs false
namespace Go.Proofs.Ytljjjdgnpnnmoaa.Q
open Go.RowKit Go.Proofs.Ytljjjdgnpnnmoaa.F Go.Proofs.YtljjjdgnpnnmoaaW.PrintWords Go.Proofs.YtljjjdgnpnnmoaaW.PrintLast Go.Proofs.YtljjjdgnpnnmoaaW.PrintMore
theorem spec_l5Numbers_ev (n : List Int) (m : List (List Int)) (hm : m.length ≤ 1048576) (hb : bulk m ≤ 1048576) : Ev (fun k => spec_l5Numbers.f k n m) m.flatten := by
  have key : ∀ i, i ≤ m.length → Ev (fun k => spec_l5Numbers.l0 k (m.take i).flatten (i : Int) n m) m.flatten := by
    refine downTo m.length ?_ ?_
    · refine Ev.step (fun k => by rw [spec_l5Numbers.l0]) ?_
      exact ev_neg (by omega) (ev_val (by rw [List.take_length]))
    · intro i hi h
      have e : (m.take i).flatten ++ rd_L1 m (i : Int) = (m.take (i + 1)).flatten := by rw [take_rows m i hi, List.flatten_append]; simp
      have hl : (m.take i).flatten.length + (rd_L1 m (i : Int)).length ≤ bulk m := by
        rw [← List.length_append, e, ← flatten_bulk m, List.length_flatten, List.length_flatten, List.map_take]
        conv => rhs; rw [← List.take_append_drop (i + 1) (m.map List.length), List.sum_append]
        omega
      refine Ev.step (fun k => by rw [spec_l5Numbers.l0]) ?_
      refine ev_pos (by omega) (ev_pos (by omega) (ev_pos (by omega) ?_))
      rw [e, wrap_succ (by omega)]
      exact h
  unfold spec_l5Numbers.f
  have := key 0 (by omega)
  simpa using this
end Go.Proofs.Ytljjjdgnpnnmoaa.Q

set_option linter.unusedVariables false
set_option linter.unusedSimpArgs false
namespace Go.Proofs.Ytljjjdgnpnnmoaa.Q
open Go.RowKit Go.Proofs.Ytljjjdgnpnnmoaa.F Go.Proofs.YtljjjdgnpnnmoaaW.PrintWords Go.Proofs.YtljjjdgnpnnmoaaW.PrintLast Go.Proofs.YtljjjdgnpnnmoaaW.PrintMore
theorem spec_l5Copy_ev (n : List Int) (m : List (List Int)) (hn : n.length ≤ 1048576) (hm : m.length ≤ 1048576) (hr : ∀ r ∈ m, r.length ≤ 1048576) : Ev (fun k => spec_l5Copy.f k n m) (n, m) := by
  have key : ∀ (d i : Nat), i + d = m.length → Ev (fun k => spec_l5Copy.l0 k (i : Int) n m n (m.take i)) (n, m) := by
    intro d
    induction d with
    | zero =>
      intro i hi
      refine Ev.step (fun k => by rw [spec_l5Copy.l0]) ?_
      exact ev_neg (by omega) (ev_val (by rw [List.take_of_length_le (by omega)]))
    | succ d ih =>
      intro i hi
      have hlt : i < m.length := by omega
      have := hr _ (rows_mem m i hlt)
      refine Ev.step (fun k => by rw [spec_l5Copy.l0]) ?_
      refine ev_pos (by omega) (ev_bindc rfl (ev_pos (by omega) (ev_pos (by simp only [List.length_nil]; omega) (ev_pos (by rw [List.length_take]; omega) ?_))))
      rw [List.nil_append, ← take_rows m i hlt, wrap_succ (by omega)]
      exact ih (i + 1) (by omega)
  unfold spec_l5Copy.f
  refine ev_bindc rfl (ev_pos (by simp only [List.length_nil]; omega) ?_)
  rw [List.nil_append]
  exact key m.length 0 (by omega)
theorem isPart_nil : isPartition [] = true := by decide
theorem entry_at2 (m : List (List Int)) (i j : Nat) : entryOf [] m (i : Int) (j : Int) = (at2 m i j).getD 0 := by
  have e0 : at0 [] (i : Int) = 0 := at0_out [] (i : Int) (.inr (by simp))
  unfold entryOf
  rw [e0, Int.sub_zero]
  unfold at2
  by_cases h : i < m.length
  · rw [if_pos (by omega), rows_eq m i h, List.getElem?_eq_getElem h]
    show at0 m[i] (j : Int) = (m[i][j]?).getD 0
    unfold at0
    by_cases h2 : j < m[i].length
    · rw [if_pos (by omega), rd_eq _ j h2, List.getElem?_eq_getElem h2]; rfl
    · rw [if_neg (by omega), List.getElem?_eq_none (by omega)]; rfl
  · rw [if_neg (by omega), List.getElem?_eq_none (by omega)]; rfl
theorem at2_mid (D E : List (List Int)) (e : List Int) (i : Nat) : (at2 (D ++ e :: E) D.length i).getD 0 = rd e (i : Int) := by
  unfold at2
  rw [List.getElem?_append_right (Nat.le_refl _), Nat.sub_self]
  show (e[i]?).getD 0 = _
  rw [rd_nat, List.getD_eq_getElem?_getD]
theorem at2_out (D : List (List Int)) (i : Nat) : (at2 D D.length i).getD 0 = 0 := by
  unfold at2
  rw [List.getElem?_eq_none (Nat.le_refl _)]; rfl
theorem rd_out (e : List Int) : rd e (e.length : Int) = 0 := by rw [rd_nat]; simp
theorem l17_scan (m : List (List Int)) (x : Int) (c : Nat) (hc : c ≤ 1048576) (e : List Int) (r0 : Nat) (hr0 : r0 ≤ 1048576) (Z : List Int × List (List Int)) (hent : ∀ r : Nat, entryOf [] m (r : Int) (c : Int) = rd e (r : Int))
    (hlow : ∀ q : Nat, q < r0 → 0 < rd e (q : Int) ∧ rd e (q : Int) < x) (hstop : rd e (r0 : Int) = 0 ∨ x ≤ rd e (r0 : Int)) (hj : Ev (fun k => spec_l17Column.j2 k x (c : Int) (r0 : Int) [] m) Z) :
    ∀ (d r : Nat), r + d = r0 → Ev (fun k => spec_l17Column.l1 k x (c : Int) (r : Int) [] m) Z
  | 0, r, hr => by
    obtain rfl : r = r0 := by omega
    refine Ev.step (fun k => by rw [spec_l17Column.l1]) ?_
    refine Ev.bind (spec_entry_ev [] m _ _ isPart_nil (by omega) (by omega)) ?_
    rw [hent]
    refine ev_ite (fun h => Ev.bind (spec_entry_ev [] m _ _ isPart_nil (by omega) (by omega)) ?_) (fun _ => hj)
    rw [hent]
    exact ev_neg (by omega) hj
  | d + 1, r, hr => by
    obtain ⟨h1, h2⟩ := hlow r (by omega)
    refine Ev.step (fun k => by rw [spec_l17Column.l1]) ?_
    refine Ev.bind (spec_entry_ev [] m _ _ isPart_nil (by omega) (by omega)) ?_
    rw [hent]
    refine ev_pos h1 (Ev.bind (spec_entry_ev [] m _ _ isPart_nil (by omega) (by omega)) ?_)
    rw [hent]
    refine ev_pos h2 ?_
    rw [wrap_succ (by omega)]
    exact l17_scan m x c hc e r0 hr0 Z hent hlow hstop hj d (r + 1) (by omega)
theorem l17_walk : ∀ (E D m : List (List Int)) (x : Int), Grid m (D ++ E) → 1 ≤ x → (∀ e ∈ E, ∀ v ∈ e, 1 ≤ v) → RowInc E → (∀ e E', E = e :: E' → bumpC e x < 0 → ∀ d ∈ D, e.length < d.length) → m.length ≤ 1048576 → (∀ r ∈ m, r.length ≤ 1048576) → D.length + E.length ≤ 1048576 →
    ∃ m', Ev (fun k => spec_l17Column.l0 k x (D.length : Int) [] m) ([], m') ∧ Grid m' (D ++ insCols E x)
  | [], D, m, x, hG, hx, _, _, _, hm, hr, hl => by
    rw [List.append_nil] at hG
    have hent : ∀ r : Nat, entryOf [] m (r : Int) (D.length : Int) = rd [] (r : Int) := by
      intro r
      rw [entry_at2, hG.1, at2_out]
      simp [rd_nat]
    obtain ⟨f1, f2⟩ := hG.fresh x
    have go : ∀ m', Ev (fun k => spec_l17Column.j2 k x (D.length : Int) ((0 : Nat) : Int) [] m) ([], m') → Ev (fun k => spec_l17Column.l0 k x (D.length : Int) [] m) ([], m') := by
      intro m' hj
      refine Ev.step (fun k => by rw [spec_l17Column.l0]) ?_
      exact l17_scan m x D.length (by simp at hl; omega) [] 0 (by omega) _ hent (fun q hq => by omega) (.inl (rd_out [])) hj 0 0 rfl
    have hz : entryOf [] m ((0 : Nat) : Int) (D.length : Int) = 0 := by rw [hent]; exact rd_out []
    by_cases hD : D = []
    · obtain ⟨g1, g2⟩ := f1 hD
      subst hD
      subst g1
      refine ⟨[[x]], go _ ?_, g2⟩
      refine Ev.step (fun k => by rw [spec_l17Column.j2]) ?_
      refine Ev.bind (spec_entry_ev [] _ _ _ isPart_nil (by omega) (by omega)) ?_
      rw [hz]
      have er0 : rd_L1 ([] ++ [[]]) ((0 : Nat) : Int) = [] := by rw [rows_nat]; rfl
      exact ev_pos rfl (ev_pos (by simp) (ev_pos (by simp) (ev_bindc rfl (ev_pos (by simp) (ev_pos (by simp) (ev_pos (by rw [er0]; simp) (ev_val (by rw [er0]; rfl))))))))
    · obtain ⟨g1, g2, g3⟩ := f2 hD
      refine ⟨_, go _ ?_, g3⟩
      refine Ev.step (fun k => by rw [spec_l17Column.j2]) ?_
      refine Ev.bind (spec_entry_ev [] _ _ _ isPart_nil (by omega) (by simp at hl; omega)) ?_
      rw [hz]
      refine ev_pos rfl (ev_neg (by omega) (ev_pos (by omega) (ev_pos (by omega) ?_)))
      rw [rows_eq m 0 g1]
      exact ev_pos (by have := hr m[0] (List.getElem_mem g1); omega) (ev_val rfl)
  | e :: E, D, m, x, hG, hx, hpos, hinc, hq, hm, hr, hl => by
    rw [List.length_cons] at hl
    have hent : ∀ r : Nat, entryOf [] m (r : Int) (D.length : Int) = rd e (r : Int) := by
      intro r
      rw [entry_at2, hG.1, at2_mid]
    have hep : ∀ q : Nat, q < e.length → 1 ≤ rd e (q : Int) := fun q hq => hpos e (by simp) _ (rd_mem e q hq)
    rcases bumpC_split e x with ⟨hb, hall⟩ | ⟨q, hqe, hb, hge, hlow⟩
    · -- put at the end of the column
      have hD := hq e E rfl hb
      obtain ⟨f1, f2⟩ := hG.push x hD
      have hel : e.length ≤ 1048576 := by
        by_cases h0 : D = []
        · have := (f1 h0).1; omega
        · obtain ⟨g, _⟩ := f2 h0; omega
      have go : ∀ m', Ev (fun k => spec_l17Column.j2 k x (D.length : Int) (e.length : Int) [] m) ([], m') → Ev (fun k => spec_l17Column.l0 k x (D.length : Int) [] m) ([], m') := by
        intro m' hj
        refine Ev.step (fun k => by rw [spec_l17Column.l0]) ?_
        exact l17_scan m x D.length (by omega) e e.length hel _ hent (fun q hq => ⟨by have := hep q hq; omega, hall _ (rd_mem e q hq)⟩) (.inl (rd_out e)) hj e.length 0 (by omega)
      have hz : entryOf [] m (e.length : Int) (D.length : Int) = 0 := by rw [hent]; exact rd_out e
      have eI : insCols (e :: E) x = (e ++ [x]) :: E := by rw [insCols, if_pos hb]
      rw [eI]
      by_cases h0 : D = []
      · obtain ⟨g1, g2⟩ := f1 h0
        subst h0
        refine ⟨_, go _ ?_, g2⟩
        refine Ev.step (fun k => by rw [spec_l17Column.j2]) ?_
        refine Ev.bind (spec_entry_ev [] _ _ _ isPart_nil (by omega) (by omega)) ?_
        rw [hz]
        refine ev_pos rfl (ev_pos (by omega) (ev_pos (by omega) (ev_bindc rfl (ev_pos (by omega) (ev_pos (by rw [List.length_append, List.length_singleton]; omega) ?_)))))
        have er : rd_L1 (m ++ [[]]) (e.length : Int) = [] := by rw [rows_nat, ← g1]; simp
        rw [er]
        refine ev_pos (by simp) (ev_val ?_)
        rw [Int.toNat_natCast, ← g1]
        simp
      · obtain ⟨g1, g2, g3⟩ := f2 h0
        refine ⟨_, go _ ?_, g3⟩
        refine Ev.step (fun k => by rw [spec_l17Column.j2]) ?_
        refine Ev.bind (spec_entry_ev [] _ _ _ isPart_nil (by omega) (by omega)) ?_
        rw [hz]
        refine ev_pos rfl (ev_neg (by omega) (ev_pos (by omega) (ev_pos (by omega) ?_)))
        rw [rows_eq m _ g1]
        exact ev_pos (by have := hr _ (List.getElem_mem g1); omega) (ev_val (by rw [Int.toNat_natCast]))
    · -- a number is put out
      obtain ⟨g1, g2, g3⟩ := hG.turn q hqe x
      obtain ⟨y, hy⟩ : ∃ y, y = rd e (q : Int) := ⟨_, rfl⟩
      have hdd := (List.pairwise_append.1 hG.2.2.2).2.2
      have hmr := hr _ (List.getElem_mem g1)
      have ih := l17_walk E (D ++ [e.set q x]) (m.set q (m[q].set D.length x)) y (by simpa using g2) (by rw [hy]; exact hep q hqe) (fun f hf => hpos f (by simp [hf])) (by
          cases E with
          | nil => trivial
          | cons f E => exact hinc.2) (by
          rintro f E' rfl hbf d hd
          have hfq : f.length ≤ q := by
            rcases bumpC_split f y with ⟨_, hallf⟩ | ⟨s, _, hs, _⟩
            · refine Nat.le_of_not_lt fun hlt => ?_
              have h1 := hinc.1 q hlt
              have h2 := hallf _ (rd_mem f q hlt)
              omega
            · omega
          rcases List.mem_append.1 hd with g | g
          · have := hdd d g e (by simp)
            omega
          · obtain rfl : d = e.set q x := by simpa using g
            rw [List.length_set]; omega) (by rw [List.length_set]; exact hm) (fun r h => by
          rcases List.mem_or_eq_of_mem_set h with g | g
          · exact hr r g
          · subst g; rw [List.length_set]; exact hmr) (by simp; omega)
      obtain ⟨m', h1, h2⟩ := ih
      have eI : insCols (e :: E) x = e.set q x :: insCols E y := by
        rw [insCols, if_neg (by omega), hb, Int.toNat_natCast, hy]
      refine ⟨m', ?_, by rw [eI]; simpa using h2⟩
      refine Ev.step (fun k => by rw [spec_l17Column.l0]) ?_
      refine l17_scan m x D.length (by omega) e q (by omega) _ hent (fun s hs => ⟨by have := hep s (by omega); omega, hlow s hs⟩) (.inr hge) ?_ q 0 (by omega)
      refine Ev.step (fun k => by rw [spec_l17Column.j2]) ?_
      refine Ev.bind (spec_entry_ev [] _ _ _ isPart_nil (by omega) (by omega)) ?_
      rw [hent, ← hy]
      have hy1 := hep q hqe
      refine ev_neg (by omega) (ev_pos (by omega) (ev_pos (by omega) (ev_pos (by omega) ?_)))
      rw [rows_eq m _ g1]
      refine ev_pos (by omega) ?_
      rw [Int.toNat_natCast, Int.toNat_natCast, wrap_succ (by omega)]
      rw [List.length_append, List.length_singleton] at h1
      exact h1
theorem spec_l17Column_ev (m : List (List Int)) (x : Int) (hd : Desc m) (hne : ∀ r ∈ m, r ≠ []) (hx : 1 ≤ x) (hpos : ∀ e ∈ cols m, ∀ v ∈ e, 1 ≤ v) (hinc : RowInc (cols m)) (hm : m.length ≤ 1048576) (hr : ∀ r ∈ m, r.length ≤ 1048576) :
    Ev (fun k => spec_l17Column.f k [] m x) ([], cols (insCols (cols m) x)) := by
  unfold spec_l17Column.f
  refine Ev.bind (spec_l5Copy_ev [] m (by simp) hm hr) ?_
  obtain ⟨m', h1, h2⟩ := l17_walk (cols m) [] m x (grid_cols m hd hne) hx hpos hinc (fun e E' _ _ d hd => by simp at hd) hm hr (by
    have := (cols_bd 1048576 m hr).1
    simpa using this)
  rw [List.nil_append] at h2
  rw [← h2.eq]
  exact h1
end Go.Proofs.Ytljjjdgnpnnmoaa.Q

set_option linter.unusedVariables false
set_option linter.unusedSimpArgs false
namespace Go.Proofs.Ytljjjdgnpnnmoaa.Q
open Go.RowKit Go.Proofs.Ytljjjdgnpnnmoaa.F Go.Proofs.YtljjjdgnpnnmoaaW.PrintWords Go.Proofs.YtljjjdgnpnnmoaaW.PrintLast Go.Proofs.YtljjjdgnpnnmoaaW.PrintMore
def insIC (n : List Int) (m : List (List Int)) (x : Int) : List Int × List (List Int) × Bool :=
  if plainT n m = true ∧ (1 ≤ x ∧ x ≤ 9) ∧ m.flatten.length < 9 then ([], cols (insCols (cols m) x), true) else ([], [], false)
theorem plainT_iff {n : List Int} {m : List (List Int)} : plainT n m = true ↔ n = [] ∧ isTab n m = true := by
  unfold plainT
  rw [Bool.and_eq_true, decide_eq_true_eq, List.length_eq_zero_iff]
theorem spec_InsertInColumns_ev (n : List Int) (m : List (List Int)) (x : Int) (hn : n.length ≤ 1048576) (hm : m.length ≤ 1048576) (hb : bulk m ≤ 1048576) : Ev (fun k => spec_InsertInColumns.f k n m x) (insIC n m x) := by
  have hr : ∀ r ∈ m, r.length ≤ 1048576 := fun r h => by have := bulk_mem h; omega
  unfold spec_InsertInColumns.f insIC
  refine Ev.bind (spec_l9Plain_ev n m hn hm hb) (ev_ite (fun h => ?_) (fun h => ev_val (by rw [if_neg (fun g => h g.1)])))
  refine ev_bindc (spec_l1In_eq x 1 9) (ev_ite (fun h2 => ?_) (fun h2 => ev_val (by rw [if_neg (fun g => h2 (by simpa using g.2.1))])))
  refine Ev.bind (spec_l5Numbers_ev n m hm hb) (ev_ite (fun h3 => ev_val (by rw [if_neg (fun g => by have := g.2.2; omega)])) (fun h3 => ?_))
  obtain ⟨rfl, ht⟩ := plainT_iff.1 h
  have hx : 1 ≤ x ∧ x ≤ 9 := by simpa using h2
  obtain ⟨p1, p2, p3⟩ := plain_shape ht
  rw [if_pos ⟨h, hx, by omega⟩]
  exact Ev.bind (spec_l17Column_ev m x p1 p2 hx.1 (cols_pos ht) (cols_inc ht) hm hr) (ev_val rfl)
end Go.Proofs.Ytljjjdgnpnnmoaa.Q

set_option linter.unusedVariables false
set_option linter.unusedSimpArgs false
namespace Go.Proofs.Ytljjjdgnpnnmoaa.Q
open Go.RowKit Go.Proofs.Ytljjjdgnpnnmoaa.F Go.Proofs.YtljjjdgnpnnmoaaW.PrintWords Go.Proofs.YtljjjdgnpnnmoaaW.PrintLast Go.Proofs.YtljjjdgnpnnmoaaW.PrintMore
structure Ob where
  ok : Nat → Prop
  P : World → Prop
def Firm (o : Ob) : Prop := ∀ W W' : World, o.P W → (∀ k, o.ok k → k < W.heap.size → W'.heap[k]? = W.heap[k]?) → o.P W'
structure St (w W : World) (L : List Ob) : Prop where
  below : Below w.heap.size w W
  own : ∀ o ∈ L, (∀ k, o.ok k → w.heap.size ≤ k ∧ k < W.heap.size) ∧ o.P W ∧ Firm o
  apart : L.Pairwise (fun a b => ∀ k, a.ok k → ¬ b.ok k)
def obR {α : Type} (d : Kd α) (t : Nat) (w : World) (ok : Nat → Prop) (v : Value) (xs : List α) : Ob := ⟨ok, fun W => Kd.R d t W w.heap.size ok v xs⟩
def obS {α : Type} (d : Kd α) (t : Nat) (w : World) (ok : Nat → Prop) (v : Value) (xs : List α) : Ob := ⟨ok, fun W => Kd.S d t W w.heap.size ok v xs⟩
section
variable {α β : Type} {d : Kd α} {d' : Kd β} {t t' : Nat} {w W W' : World} {ok ok' okq : Nat → Prop} {v v' : Value} {xs : List α} {ys : List β} {L L' : List Ob} {o o' : Ob}
theorem firmR : Firm (obR d t w ok v xs) := fun _ _ h hm => Kd.R_step h hm
theorem firmS : Firm (obS d t w ok v xs) := fun _ _ h hm => Kd.S_step h hm
theorem St.start (w : World) : St w w [] := ⟨Below.refl _ _, fun _ h => by simp at h, List.Pairwise.nil⟩
theorem St.quiet (h : St w W L) (hb : Below W.heap.size W W') : St w W' L := by
  have hs := h.below.size
  refine ⟨below_then h.below hs hb, fun o ho => ?_, h.apart⟩
  obtain ⟨h1, h2, h3⟩ := h.own o ho
  exact ⟨fun k hk => ⟨(h1 k hk).1, Nat.lt_of_lt_of_le (h1 k hk).2 hb.size⟩, h3 W W' h2 (fun k _ hk => hb.block k hk), h3⟩
theorem St.drawn (h : St w W L) (hd : Drawn0 W W') : St w W' L := h.quiet hd.below
theorem St.add (h : St w W L) (hb : Below W.heap.size W W') (hn : ∀ k, o.ok k → W.heap.size ≤ k ∧ k < W'.heap.size) (hP : o.P W') (hf : Firm o) : St w W' (o :: L) := by
  have hq := h.quiet hb
  have hs := h.below.size
  refine ⟨hq.below, fun p hp => ?_, List.Pairwise.cons (fun p hp k hk hk2 => ?_) hq.apart⟩
  · rcases List.mem_cons.1 hp with rfl | hp
    · exact ⟨fun k hk => ⟨Nat.le_trans hs (hn k hk).1, (hn k hk).2⟩, hP, hf⟩
    · exact hq.own p hp
  · have := (h.own p hp).1 k hk2
    have := hn k hk
    omega
theorem St.addR (h : St w W L) (hb : Below W.heap.size W W') (hr : Kd.R d t W' W.heap.size ok v xs) : ∃ ok1, St w W' (obR d t w ok1 v xs :: L) :=
  ⟨_, h.add (o := obR d t w (fun k => W.heap.size ≤ k ∧ k < W'.heap.size) v xs) hb (fun _ hk => hk) (Kd.R_mono (Kd.R_lower (Kd.R_bound hr) h.below.size) (fun k hk => ⟨hk.2.1, hk.2.2.1⟩)) firmR⟩
theorem St.addS (h : St w W L) (hb : Below W.heap.size W W') (hr : Kd.S d t W' W.heap.size ok v xs) : ∃ ok1, St w W' (obS d t w ok1 v xs :: L) :=
  ⟨_, h.add (o := obS d t w (fun k => W.heap.size ≤ k ∧ k < W'.heap.size) v xs) hb (fun _ hk => hk) (Kd.S_mono (Kd.S_lower (Kd.S_bound hr) h.below.size) (fun k hk => ⟨hk.2.1, hk.2.2.1⟩)) firmS⟩
theorem St.add2 (h : St w W L) (hb : Below W.heap.size W W') (hn : ∀ k, o.ok k → W.heap.size ≤ k ∧ k < W'.heap.size) (hP : o.P W') (hf : Firm o) (hn' : ∀ k, o'.ok k → W.heap.size ≤ k ∧ k < W'.heap.size) (hP' : o'.P W') (hf' : Firm o')
    (ha : ∀ k, o.ok k → ¬ o'.ok k) : St w W' (o :: o' :: L) := by
  have h1 := h.add hb hn' hP' hf'
  have hs := h.below.size
  refine ⟨h1.below, fun p hp => ?_, List.Pairwise.cons (fun p hp k hk hk2 => ?_) h1.apart⟩
  · rcases List.mem_cons.1 hp with rfl | hp
    · exact ⟨fun k hk => ⟨Nat.le_trans hs (hn k hk).1, (hn k hk).2⟩, hP, hf⟩
    · exact h1.own p hp
  · rcases List.mem_cons.1 hp with rfl | hp
    · exact ha k hk hk2
    · have := (h.own p hp).1 k hk2
      have := hn k hk
      omega
theorem St.addRS (hE : d.E = []) (h : St w W L) (hb : Below W.heap.size W W') (hr : Kd.R d t W' W.heap.size (fun _ => True) v xs) (hr' : Kd.S d' t' W' W.heap.size (fun k => some k ≠ v.ownBlock) v' ys) : ∃ ok1 ok2, St w W' (obR d t w ok1 v xs :: obS d' t' w ok2 v' ys :: L) := by
  have hs := h.below.size
  refine ⟨_, _, h.add2 (o := obR d t w (fun k => some k = v.ownBlock ∧ W.heap.size ≤ k ∧ k < W'.heap.size) v xs) (o' := obS d' t' w (fun k => some k ≠ v.ownBlock ∧ W.heap.size ≤ k ∧ k < W'.heap.size) v' ys) hb (fun _ hk => hk.2) ?_ firmR (fun _ hk => hk.2) ?_ firmS (fun _ hk hk2 => hk2.1 hk.1)⟩
  · exact Kd.R_mono (Kd.R_lower (Kd.R_bound (Kd.R_tight hE hr)) hs) (fun k hk => ⟨hk.1, hk.2.1, hk.2.2.1⟩)
  · exact Kd.S_mono (Kd.S_lower (Kd.S_bound hr') hs) (fun k hk => ⟨hk.1, hk.2.1, hk.2.2.1⟩)
theorem St.get (h : St w W L) (i : Nat) (hi : L[i]? = some o) : o.P W := (h.own o (List.mem_of_getElem? hi)).2.1
theorem St.mark (h : St w W L) (i : Nat) (hi : L[i]? = some o) (he : o'.ok = o.ok) (hf : Firm o') (hb : Below w.heap.size w W') (hk : Kept W W' o.ok) (hP : o'.P W') (hL : L.set i o' = L') : St w W' L' := by
  subst hL
  have hil := (List.getElem?_eq_some_iff.1 hi).1
  have hio := (List.getElem?_eq_some_iff.1 hi).2
  have hap : ∀ a b, a < L.length → (hb : b < L.length) → a ≠ b → ∀ x y, L[a]? = some x → L[b]? = some y → ∀ k, x.ok k → ¬ y.ok k := by
    intro a b ha hb hne x y hx hy k hxk hyk
    have hp := List.pairwise_iff_getElem.1 h.apart
    rcases Nat.lt_or_gt_of_ne hne with hlt | hlt
    · have := hp a b ha hb hlt k
      rw [List.getElem?_eq_getElem ha] at hx
      rw [List.getElem?_eq_getElem hb] at hy
      injection hx with hx; injection hy with hy
      rw [hx, hy] at this
      exact this hxk hyk
    · have := hp b a hb ha hlt k
      rw [List.getElem?_eq_getElem ha] at hx
      rw [List.getElem?_eq_getElem hb] at hy
      injection hx with hx; injection hy with hy
      rw [hx, hy] at this
      exact this hyk hxk
  refine ⟨hb, fun p hp => ?_, List.pairwise_iff_getElem.2 fun a b ha hb' hlt k => ?_⟩
  · obtain ⟨j, hj, rfl⟩ := List.mem_iff_getElem.1 hp
    rw [List.length_set] at hj
    by_cases hji : i = j
    · subst hji
      rw [List.getElem_set_self]
      have h1 := (h.own o (List.mem_of_getElem? hi)).1
      exact ⟨fun k hk' => ⟨(h1 k (he ▸ hk')).1, Nat.lt_of_lt_of_le (h1 k (he ▸ hk')).2 hk.1⟩, hP, hf⟩
    · rw [List.getElem_set_ne hji]
      obtain ⟨h1, h2, h3⟩ := h.own L[j] (List.getElem_mem hj)
      exact ⟨fun k hk' => ⟨(h1 k hk').1, Nat.lt_of_lt_of_le (h1 k hk').2 hk.1⟩, h3 W W' h2 (fun k hk' hlt => hk.2 k hlt (hap j i hj hil (Ne.symm hji) _ _ (List.getElem?_eq_getElem hj) hi k hk')), h3⟩
  · rw [List.length_set] at ha hb'
    have hx : ∀ j (hj : j < L.length) (hj' : j < (L.set i o').length), ((L.set i o')[j]).ok = (L[j]).ok := by
      intro j hj hj'
      by_cases hji : i = j
      · subst hji; rw [List.getElem_set_self, he, hio]
      · rw [List.getElem_set_ne hji]
    rw [hx a ha, hx b hb']
    exact List.pairwise_iff_getElem.1 h.apart a b ha hb' hlt k
def Reads (d : Kd α) (W : World) (v : Value) (xs : List α) : Prop := ∃ A c, v = .slice A xs.length c ∧ xs.length ≤ c ∧ d.C W A xs.length xs
theorem St.readR (h : St w W L) (i : Nat) (hi : L[i]? = some (obR d t w ok v xs)) : Reads d W v xs := Kd.R_reads (h.get i hi)
theorem St.readS (h : St w W L) (i : Nat) (hi : L[i]? = some (obS d t w ok v xs)) : Reads d W v xs := Kd.R_reads (Kd.S_R (h.get i hi))
theorem St.came (h : St w W L) {A : Option Addr} {c : Nat} (hr : d.C w A xs.length xs) (hc : xs.length ≤ c) : Reads d W (.slice A xs.length c) xs := ⟨A, c, rfl, hc, Kd.C_below hr h.below⟩
end
end Go.Proofs.Ytljjjdgnpnnmoaa.Q

set_option linter.unusedVariables false
set_option linter.unusedSimpArgs false
namespace Go.Proofs.Ytljjjdgnpnnmoaa.Q
open Go.RowKit Go.Proofs.Ytljjjdgnpnnmoaa.F Go.Proofs.YtljjjdgnpnnmoaaW.PrintWords Go.Proofs.YtljjjdgnpnnmoaaW.PrintLast Go.Proofs.YtljjjdgnpnnmoaaW.PrintMore
theorem eqIntS_l0 (a b : List Int) (hl : a.length = b.length) (hb : a.length ≤ 1152921504606846976) : ∀ (d i : Nat), i + d = a.length → Ev (fun k => laws_eqIntS.l0 k a b (i : Int)) (decide (a.drop i = b.drop i)) := by
  intro d
  induction d with
  | zero =>
    intro i h
    refine Ev.step (fun k => by rw [laws_eqIntS.l0]) ?_
    refine ev_neg (by omega) (ev_val ?_)
    rw [List.drop_of_length_le (by omega), List.drop_of_length_le (by omega)]
    simp
  | succ d ih =>
    intro i h
    refine Ev.step (fun k => by rw [laws_eqIntS.l0]) ?_
    refine ev_pos (by omega) (ev_pos (by omega) (ev_pos (by omega) (ev_ite (fun he => ?_) (fun he => ev_val ?_))))
    · rw [wrap_succ (by omega)]
      refine ev_eq (ih (i + 1) (by omega)) ?_
      rw [drop_rd a i (by omega), drop_rd b i (by omega), he]
      simp
    · rw [drop_rd a i (by omega), drop_rd b i (by omega)]
      simp [he]
theorem eqIntS_ev (a b : List Int) (hb : a.length ≤ 1152921504606846976) : Ev (fun k => laws_eqIntS.f k a b) (decide (a = b)) := by
  unfold laws_eqIntS.f
  refine ev_ite (fun h => ?_) (fun h => ev_val ?_)
  · have := eqIntS_l0 a b (by omega) hb a.length 0 (by omega)
    simpa using this
  · have : a ≠ b := fun e => h (by rw [e])
    simp [this]
end Go.Proofs.Ytljjjdgnpnnmoaa.Q

set_option linter.unusedVariables false
set_option linter.unusedSimpArgs false
namespace Go.Proofs.Ytljjjdgnpnnmoaa.Q
open Go.RowKit Go.Proofs.Ytljjjdgnpnnmoaa.F Go.Proofs.YtljjjdgnpnnmoaaW.PrintWords Go.Proofs.YtljjjdgnpnnmoaaW.PrintLast Go.Proofs.YtljjjdgnpnnmoaaW.PrintMore
theorem toIntS_l0 (l : List Int) (hl : l.length ≤ 1048576) : ∀ (d i : Nat), i + d = l.length → Ev (fun k => laws_toIntS.l0 k l (l.take i ++ List.replicate d 0) (i : Int)) l := by
  intro d
  induction d with
  | zero =>
    intro i h
    refine Ev.step (fun k => by rw [laws_toIntS.l0]) ?_
    refine ev_neg (by omega) (ev_val ?_)
    simp [List.take_of_length_le (show l.length ≤ i by omega)]
  | succ d ih =>
    intro i h
    have hi : i < l.length := by omega
    refine Ev.step (fun k => by rw [laws_toIntS.l0]) ?_
    refine ev_pos (by omega) (ev_pos (by omega) (ev_pos (by simp; omega) ?_))
    have e : (l.take i ++ List.replicate (d + 1) 0).set (i : Int).toNat (rd l (i : Int)) = l.take (i + 1) ++ List.replicate d 0 := by
      rw [take_rd l i hi, List.set_append_right _ _ (by simp; omega)]
      simp [List.replicate_succ, Nat.min_eq_left (Nat.le_of_lt hi)]
    rw [e, wrap_succ (by omega)]
    exact ih (i + 1) (by omega)
theorem toIntS_ev (l : List Int) (hl : l.length ≤ 1048576) : Ev (fun k => laws_toIntS.f k l) l := by
  unfold laws_toIntS.f
  refine ev_pos (by omega) (ev_pos (by simp; omega) ?_)
  have := toIntS_l0 l hl l.length 0 (by omega)
  simpa using this
end Go.Proofs.Ytljjjdgnpnnmoaa.Q

set_option linter.unusedVariables false
set_option linter.unusedSimpArgs false
namespace Go.Proofs.Ytljjjdgnpnnmoaa.Q
open Go.RowKit Go.Proofs.Ytljjjdgnpnnmoaa.F Go.Proofs.YtljjjdgnpnnmoaaW.PrintWords Go.Proofs.YtljjjdgnpnnmoaaW.PrintLast Go.Proofs.YtljjjdgnpnnmoaaW.PrintMore
theorem szIntS_eq (l : List Int) (left : Int) (h0 : 0 ≤ left) (h1 : left ≤ 1048576) (hm : l.length ≤ maxLen) : laws_szIntS.f l left = some (if left - l.length < 0 then -1 else left - l.length) := by
  unfold maxLen at hm
  unfold laws_szIntS.f
  rw [wrap_id (by omega) (by omega)]
  split <;> rfl
theorem szIntSS_ev (l : List (List Int)) (left : Int) (h0 : 0 ≤ left) (h1 : left ≤ 1048576) (hm : l.length ≤ maxLen) (hr : ∀ r ∈ l, r.length ≤ maxLen) :
    ∃ r, Ev (fun k => laws_szIntSS.f k l left) r ∧ (r < 0 ∨ (0 ≤ r ∧ r = left - (l.length : Int) - (bulk l : Int))) := by
  unfold maxLen at hm
  unfold laws_szIntSS.f
  rw [wrap_id (by omega) (by omega)]
  by_cases hneg : left - (l.length : Int) < 0
  · exact ⟨-1, ev_pos hneg (ev_val rfl), .inl (by omega)⟩
  · have key : ∀ i, i ≤ l.length → ∀ left : Int, 0 ≤ left → left ≤ 1048576 → ∃ r, Ev (fun k => laws_szIntSS.l0 k l left (i : Int)) r ∧ (r < 0 ∨ (0 ≤ r ∧ r = left - (bulk (l.drop i) : Int))) := by
      refine downTo l.length ?_ ?_
      · intro left a b
        refine ⟨left, ?_, .inr ⟨a, by rw [List.drop_length]; simp [bulk]⟩⟩
        refine Ev.step (fun k => by rw [laws_szIntSS.l0]) ?_
        exact ev_neg (by omega) (ev_val rfl)
      · intro i hi ih left a b
        have hrow := hr _ (rows_mem l i hi)
        by_cases hn : left - ((rd_L1 l (i : Int)).length : Int) < 0
        · refine ⟨-1, ?_, .inl (by omega)⟩
          refine Ev.step (fun k => by rw [laws_szIntSS.l0]) ?_
          exact ev_pos (by omega) (ev_pos (by omega) (ev_bindc (szIntS_eq _ _ a b hrow) (ev_pos (by rw [if_pos hn]; omega) (ev_val rfl))))
        · obtain ⟨r, hev, hp⟩ := ih (left - ((rd_L1 l (i : Int)).length : Int)) (by omega) (by omega)
          refine ⟨r, ?_, ?_⟩
          · refine Ev.step (fun k => by rw [laws_szIntSS.l0]) ?_
            refine ev_pos (by omega) (ev_pos (by omega) (ev_bindc (szIntS_eq _ _ a b hrow) (ev_neg (by rw [if_neg hn]; omega) ?_)))
            rw [if_neg hn, wrap_succ (by omega)]
            exact hev
          · rw [drop_rows l i hi]
            unfold bulk
            omega
    obtain ⟨r, hev, hp⟩ := key 0 (by omega) (left - (l.length : Int)) (by omega) (by omega)
    rw [List.drop_zero] at hp
    exact ⟨r, ev_neg hneg hev, hp⟩
theorem toIntSS_ev (l : List (List Int)) (hl : l.length ≤ 1048576) (hr : ∀ r ∈ l, r.length ≤ 1048576) : Ev (fun k => laws_toIntSS.f k l) l := by
  unfold laws_toIntSS.f
  refine ev_pos (by omega) (ev_pos (by simp; omega) ?_)
  have key : ∀ (d i : Nat), i + d = l.length → Ev (fun k => laws_toIntSS.l0 k l (l.take i ++ List.replicate d []) (i : Int)) l := by
    intro d
    induction d with
    | zero =>
      intro i h
      refine Ev.step (fun k => by rw [laws_toIntSS.l0]) ?_
      refine ev_neg (by omega) (ev_val ?_)
      simp [List.take_of_length_le (show l.length ≤ i by omega)]
    | succ d ih =>
      intro i h
      have hi : i < l.length := by omega
      refine Ev.step (fun k => by rw [laws_toIntSS.l0]) ?_
      refine ev_pos (by omega) (ev_pos (by omega) (Ev.bind (toIntS_ev _ (hr _ (rows_mem l i hi))) (ev_pos (by simp; omega) ?_)))
      have e : (l.take i ++ List.replicate (d + 1) []).set (i : Int).toNat (rd_L1 l (i : Int)) = l.take (i + 1) ++ List.replicate d [] := by
        rw [take_rows l i hi, List.set_append_right _ _ (by simp; omega)]
        simp [List.replicate_succ, Nat.min_eq_left (Nat.le_of_lt hi)]
      rw [e, wrap_succ (by omega)]
      exact ih (i + 1) (by omega)
  have := key l.length 0 (by omega)
  simpa using this
theorem eqIntSS_ev (a b : List (List Int)) (hl : a.length ≤ 1152921504606846976) (hr : ∀ r ∈ a, r.length ≤ 1152921504606846976) : Ev (fun k => laws_eqIntSS.f k a b) (decide (a = b)) := by
  unfold laws_eqIntSS.f
  refine ev_ite (fun h => ?_) (fun h => ev_val ?_)
  · have := downTo (P := fun i => Ev (fun k => laws_eqIntSS.l0 k a b (i : Int)) (decide (a.drop i = b.drop i))) a.length ?_ ?_ 0 (by omega)
    · simpa using this
    · refine Ev.step (fun k => by rw [laws_eqIntSS.l0]) ?_
      refine ev_neg (by omega) (ev_val ?_)
      rw [List.drop_of_length_le (by omega), List.drop_of_length_le (by omega)]
      simp
    · intro i hi ih
      refine Ev.step (fun k => by rw [laws_eqIntSS.l0]) ?_
      refine ev_pos (by omega) (ev_pos (by omega) (ev_pos (by omega) (Ev.bind (eqIntS_ev _ _ (hr _ (rows_mem a i hi))) (ev_ite (fun he => ?_) (fun he => ev_val ?_)))))
      · rw [wrap_succ (by omega)]
        refine ev_eq ih ?_
        rw [decide_eq_true_eq] at he
        rw [drop_rows a i (by omega), drop_rows b i (by omega), he]
        simp
      · rw [decide_eq_true_eq] at he
        rw [drop_rows a i (by omega), drop_rows b i (by omega)]
        simp [he]
  · have : a ≠ b := fun e => h (by rw [e])
    simp [this]
end Go.Proofs.Ytljjjdgnpnnmoaa.Q

set_option linter.unusedVariables false
set_option linter.unusedSimpArgs false
namespace Go.Proofs.Ytljjjdgnpnnmoaa.Q
open Go.RowKit Go.Proofs.Ytljjjdgnpnnmoaa.F Go.Proofs.YtljjjdgnpnnmoaaW.PrintWords Go.Proofs.YtljjjdgnpnnmoaaW.PrintLast Go.Proofs.YtljjjdgnpnnmoaaW.PrintMore
def marks (m n : Nat) : List Int := (List.range n).map (fun i => ((m + i : Nat) : Int))
theorem marks_length (m n : Nat) : (marks m n).length = n := by simp [marks]
theorem marks_succ (m n : Nat) : marks m (n + 1) = marks m n ++ [((m + n : Nat) : Int)] := by simp [marks, List.range_succ]
theorem marks_rd (m n i : Nat) (h : i < n) : rd (marks m n) (i : Int) = ((m + i : Nat) : Int) := by
  rw [rd_eq _ i (by rw [marks_length]; exact h)]; simp [marks]
theorem markIntS_ev (l : List Int) (m : Nat) (hl : l.length ≤ 1152921504606846976) (hm : m ≤ 2305843009213693952) : Ev (fun k => laws_markIntS.f k l (m : Int)) (((m + l.length : Nat) : Int), marks m l.length) := by
  unfold laws_markIntS.f
  refine downTo (P := fun i => Ev (fun k => laws_markIntS.l0 k (marks m i ++ l.drop i) ((m + i : Nat) : Int) (i : Int)) (((m + l.length : Nat) : Int), marks m l.length)) l.length ?_ ?_ 0 (by omega)
  · refine Ev.step (fun k => by rw [laws_markIntS.l0]) ?_
    rw [List.drop_length, List.append_nil]
    exact ev_neg (by rw [marks_length]; omega) (ev_val rfl)
  · intro i hi ih
    refine Ev.step (fun k => by rw [laws_markIntS.l0]) ?_
    refine ev_pos (by simp [marks_length]; omega) (ev_pos (by omega) ?_)
    have e : (marks m i ++ l.drop i).set (i : Int).toNat ((m + i : Nat) : Int) = marks m (i + 1) ++ l.drop (i + 1) := by
      rw [Int.toNat_natCast, List.set_append_right _ _ (by rw [marks_length]; omega), marks_length, Nat.sub_self, drop_rd l i hi, marks_succ]
      simp
    rw [e, wrap_succ (by omega), wrap_succ (by omega)]
    exact ih
theorem heldIntS_ev (m n : Nat) (hl : n ≤ 1152921504606846976) (hm : m ≤ 2305843009213693952) : Ev (fun k => laws_heldIntS.f k (marks m n) (m : Int)) ((m + n : Nat) : Int) := by
  unfold laws_heldIntS.f
  refine downTo (P := fun i => Ev (fun k => laws_heldIntS.l0 k (marks m n) ((m + i : Nat) : Int) (i : Int)) ((m + n : Nat) : Int)) n ?_ ?_ 0 (by omega)
  · refine Ev.step (fun k => by rw [laws_heldIntS.l0]) ?_
    exact ev_neg (by rw [marks_length]; omega) (ev_val rfl)
  · intro i hi ih
    refine Ev.step (fun k => by rw [laws_heldIntS.l0]) ?_
    refine ev_pos (by rw [marks_length]; omega) (ev_pos (by omega) (ev_pos (marks_rd m n i hi) ?_))
    rw [wrap_succ (by omega), wrap_succ (by omega)]
    exact ih
end Go.Proofs.Ytljjjdgnpnnmoaa.Q

set_option linter.unusedVariables false
set_option linter.unusedSimpArgs false
namespace Go.Proofs.Ytljjjdgnpnnmoaa.Q
open Go.RowKit Go.Proofs.Ytljjjdgnpnnmoaa.F Go.Proofs.YtljjjdgnpnnmoaaW.PrintWords Go.Proofs.YtljjjdgnpnnmoaaW.PrintLast Go.Proofs.YtljjjdgnpnnmoaaW.PrintMore
def rowMarks (m : Nat) : List (List Int) → List (List Int)
  | [] => []
  | r :: l => marks m r.length :: rowMarks (m + r.length) l
theorem rowMarks_length (l : List (List Int)) (m : Nat) : (rowMarks m l).length = l.length := by
  induction l generalizing m with
  | nil => rfl
  | cons r l ih => simp [rowMarks, ih]
theorem bulk_append (a b : List (List Int)) : bulk (a ++ b) = bulk a + bulk b := by
  induction a with
  | nil => simp [bulk]
  | cons r l ih => simp only [List.cons_append, bulk, ih]; omega
theorem rowMarks_append (a b : List (List Int)) (m : Nat) : rowMarks m (a ++ b) = rowMarks m a ++ rowMarks (m + bulk a) b := by
  induction a generalizing m with
  | nil => simp [rowMarks, bulk]
  | cons r l ih => simp only [List.cons_append, rowMarks, bulk, ih, Nat.add_assoc]
theorem rowMarks_step (l : List (List Int)) (m i : Nat) (h : i < l.length) :
    (rowMarks m (l.take i) ++ l.drop i).set i (marks (m + bulk (l.take i)) (l.getD i []).length) = rowMarks m (l.take (i + 1)) ++ l.drop (i + 1) := by
  have e : l.getD i [] = l[i] := by rw [List.getD_eq_getElem?_getD, List.getElem?_eq_getElem h]; rfl
  rw [e, List.take_succ_eq_append_getElem h, rowMarks_append, List.set_append_right _ _ (by rw [rowMarks_length, List.length_take]; omega), rowMarks_length, List.length_take, Nat.min_eq_left (Nat.le_of_lt h), Nat.sub_self]
  simp only [rowMarks, List.append_assoc, List.cons_append, List.nil_append]
  rw [show l.drop i = l[i] :: l.drop (i + 1) from List.drop_eq_getElem_cons h]
  rfl
set_option maxHeartbeats 4000000 in
set_option maxRecDepth 100000 in
theorem markIntSS_calls (P : Nat → Prop) (u : Value) (l : List (List Int)) (m : Nat) (w0 w : World) (hB : Below w0.heap.size w0 w) (hS : Kd.S (Kd.slice 3 (Kd.int .i64)) 22 w w0.heap.size P u l)
    (hb : bulk l ≤ 1152921504606846976) (hm : m ≤ 1152921504606846976) (hl : l.length ≤ 1152921504606846976) :
    Calls Try.prog 42 #[u, .int .i64 (m : Int)] w fun e w' => e = .returned (.int .i64 ((m + bulk l : Nat) : Int)) ∧ Kd.S (Kd.slice 3 (Kd.int .i64)) 22 w' w0.heap.size P u (rowMarks m l) ∧ Below w0.heap.size w0 w' ∧ Kept w w' P := by
  have HS := Aside0.mk hS
  have HB := Aside0.mk hB
  obtain ⟨A, c, hu⟩ := Kd.R_slice (Kd.S_R hS)
  subst hu
  clear hS hB
  go_enter Try.func42, Try.ntmps42
  go_wp2
  go_loopg [1, 5] l.length (fun kq v1 v5 wr => ∃ i j : Nat, i ≤ l.length ∧ l.length - i ≤ kq ∧ Aside0 (j = m + bulk (l.take i)) ∧ v1 = .int .i64 (j : Int) ∧ v5 = .int .i64 i ∧ Aside0 (Kd.S (Kd.slice 3 (Kd.int .i64)) 22 wr w0.heap.size P (.slice A l.length c) (rowMarks m (l.take i) ++ l.drop i)) ∧ Aside0 (Below w0.heap.size w0 wr) ∧ Aside0 (Kept w wr P))
  case atStart => exact ⟨0, m, Nat.zero_le _, by omega, ⟨by simp [bulk]⟩, rfl, rfl, HS, HB, ⟨Kept.refl _ _⟩⟩
  case round =>
    clear HS HB
    obtain ⟨i, j, hi, hg, HJ, rfl, rfl, HS, HB, HK⟩ := hrel
    by_cases hlt : i < l.length
    · have hltz : (i : Int) < (l.length : Int) := by omega
      have hx : (rowMarks m (l.take i) ++ l.drop i).getD (i : Int).toNat [] = l.getD i [] := by
        rw [Int.toNat_natCast, List.getD_eq_getElem?_getD, List.getElem?_append_right (by rw [rowMarks_length, List.length_take]; omega), rowMarks_length, List.length_take, Nat.min_eq_left hi, Nat.sub_self, List.getElem?_drop, Nat.add_zero, List.getD_eq_getElem?_getD]
      obtain ⟨g, cc, e0⟩ : ∃ g cc, (Value.slice A l.length c) = .slice (some ⟨g, 0, none⟩) l.length cc := by
        obtain ⟨g, cc, e0, _⟩ := Kd.R_form (Kd.S_R HS.out) (by simp [rowMarks_length]; omega)
        injection e0 with ea el ec
        exact ⟨g, c, by rw [ea]⟩
      injection e0 with ea _ ec
      subst ea ec
      obtain ⟨oki, cs, hcl, hM, hcc, hfr, hoki, hH⟩ := Kd.S_elem HS.out [] (i : Int) (by omega) (by omega)
      rw [hx] at hM
      obtain ⟨v, rfl, hR⟩ := hM
      obtain ⟨A1, c1, e1⟩ := Kd.R_slice hR
      subst e1
      have hx1 := hcc 0 _ rfl
      rw [show (i : Int).toNat * (Kd.slice 3 (Kd.int .i64)).sz + 0 = i from by show (i : Int).toNat * 1 + 0 = i; omega] at hx1
      have hlb : (l.getD i []).length + bulk (l.take i) ≤ bulk l := by
        have e : l.getD i [] = l[i] := by rw [List.getD_eq_getElem?_getD, List.getElem?_eq_getElem hlt]; rfl
        have h1 := bulk_append (l.take (i + 1)) (l.drop (i + 1))
        rw [List.take_append_drop, List.take_succ_eq_append_getElem hlt, bulk_append] at h1
        rw [e]
        simp only [bulk] at h1
        omega
      have hj := HJ.out
      obtain ⟨K, hK⟩ := markIntS_ev (l.getD i []) j (by omega) (by omega)
      have hst := rowMarks_step l m i hlt
      rw [← hj] at hst
      have hjj : j + (l.getD i []).length = m + bulk (l.take (i + 1)) := by
        have e : l.getD i [] = l[i] := by rw [List.getD_eq_getElem?_getD, List.getElem?_eq_getElem hlt]; rfl
        rw [List.take_succ_eq_append_getElem hlt, bulk_append, e, hj]
        simp only [bulk]
        omega
      have J1 := Aside0.mk hjj
      have ST := Aside0.mk hst
      have HK1 := Aside0.mk (hK K (Nat.le_refl _))
      have HR := Aside0.mk hR
      have HO := Aside0.mk hoki
      have HH := Aside0.mk hH
      clear hst hK hR hoki hH hjj hj hx hcl hcc hfr HJ
      generalize l.getD i [] = r at hx1 HR HK1 ST J1 HH hlb
      go_wp2_with (go_at_call 19; (with_reducible refine (laws_markIntS.calls K oki _ r (j : Int) _ _ w0 _ HB.out HR.out HK1.out).mono ?_); rintro e w6 ⟨rfl, hr6, hb6, hk6⟩; have R6 := Aside0.mk hr6; have B6 := Aside0.mk hb6; have K6 := Aside0.mk hk6; clear hr6 hb6 hk6)
      go_roundg (l.length - (i + 1))
      case measure => omega
      case rel =>
        refine ⟨i + 1, j + r.length, by omega, by omega, J1, rfl, by go_num, ⟨?_⟩, B6, ⟨HK.out.then_ K6.out (fun k hk => .inl (HO.out k hk).1)⟩⟩
        rw [← ST.out]
        have h1 := Kd.H_back (Kd.H_step HH.out (fun k _ hn hlt => K6.out.2 k hlt hn)) (x' := marks j r.length) (okp := oki) ⟨_, rfl, Kd.R_mono (Kd.R_tight rfl R6.out) (fun k hk => HR.out.1 k hk.symm)⟩ (fun _ h => h)
        rwa [Int.toNat_natCast] at h1
    · have : i = l.length := by omega
      subst this
      have hltz : ¬ (l.length : Int) < (l.length : Int) := by omega
      replace HS := Aside0.mk (show Kd.S _ _ _ _ _ _ (rowMarks m l) by have := HS.out; rwa [List.take_length, List.drop_length, List.append_nil] at this)
      go_wp2
      go_ret
      exact ⟨by have := HJ.out; rw [List.take_length] at this; rw [this]; rfl, HS.out, HB.out, HK.out⟩
end Go.Proofs.Ytljjjdgnpnnmoaa.Q

set_option linter.unusedVariables false
set_option linter.unusedSimpArgs false
namespace Go.Proofs.Ytljjjdgnpnnmoaa.Q
open Go.RowKit Go.Proofs.Ytljjjdgnpnnmoaa.F Go.Proofs.YtljjjdgnpnnmoaaW.PrintWords Go.Proofs.YtljjjdgnpnnmoaaW.PrintLast Go.Proofs.YtljjjdgnpnnmoaaW.PrintMore
section
variable {w W : World} {L L' : List Ob} {ok ok' : Nat → Prop} {v v' : Value} {xs ys : List Int}
theorem markIntS_st (h : St w W L) (i : Nat) (hi : L[i]? = some (obR (Kd.int .i64) 3 w ok v xs)) (m : Nat) (hm : m ≤ 2305843009213693952) (hl : xs.length ≤ 1152921504606846976) (hL : L.set i (obR (Kd.int .i64) 3 w ok v (marks m xs.length)) = L') :
    Calls Try.prog 19 #[v, .int .i64 (m : Int)] W fun e W' => e = .returned (.int .i64 ((m + xs.length : Nat) : Int)) ∧ St w W' L' := by
  obtain ⟨K, hK⟩ := markIntS_ev xs m hl hm
  have hR : Kd.R (Kd.int .i64) 3 W w.heap.size ok v xs := h.get i hi
  refine (laws_markIntS.calls K ok v xs (m : Int) _ _ w W h.below hR (hK K (Nat.le_refl _))).mono ?_
  rintro e W' ⟨rfl, hr, hb, hk⟩
  exact ⟨rfl, h.mark (o' := obR (Kd.int .i64) 3 w ok v (marks m xs.length)) i hi rfl firmR hb hk (Kd.R_mono (Kd.R_tight rfl hr) (fun k hk => hR.1 k hk.symm)) hL⟩
end
end Go.Proofs.Ytljjjdgnpnnmoaa.Q

set_option linter.unusedVariables false
set_option linter.unusedSimpArgs false
namespace Go.Proofs.Ytljjjdgnpnnmoaa.Q
open Go.RowKit Go.Proofs.Ytljjjdgnpnnmoaa.F Go.Proofs.YtljjjdgnpnnmoaaW.PrintWords Go.Proofs.YtljjjdgnpnnmoaaW.PrintLast Go.Proofs.YtljjjdgnpnnmoaaW.PrintMore
section
variable {w W : World} {L L' : List Ob} {ok ok' : Nat → Prop} {v v' : Value} {xs ys : List (List Int)}
theorem markIntSS_st (h : St w W L) (i : Nat) (hi : L[i]? = some (obS (Kd.slice 3 (Kd.int .i64)) 22 w ok v xs)) (m : Nat) (hm : m ≤ 1152921504606846976) (hl : xs.length ≤ 1152921504606846976) (hb : bulk xs ≤ 1152921504606846976)
    (hL : L.set i (obS (Kd.slice 3 (Kd.int .i64)) 22 w ok v (rowMarks m xs)) = L') :
    Calls Try.prog 42 #[v, .int .i64 (m : Int)] W fun e W' => e = .returned (.int .i64 ((m + bulk xs : Nat) : Int)) ∧ St w W' L' := by
  have hR : Kd.S (Kd.slice 3 (Kd.int .i64)) 22 W w.heap.size ok v xs := h.get i hi
  refine (markIntSS_calls ok v xs m w W h.below hR hb hm hl).mono ?_
  rintro e W' ⟨rfl, hr, hb, hk⟩
  exact ⟨rfl, h.mark (o' := obS (Kd.slice 3 (Kd.int .i64)) 22 w ok v (rowMarks m xs)) i hi rfl firmS hb hk hr hL⟩
theorem heldIntSS_ev (l : List (List Int)) (m : Nat) (hl : l.length ≤ 1152921504606846976) (hb : bulk l ≤ 1152921504606846976) (hm : m ≤ 1152921504606846976) : Ev (fun k => laws_heldIntSS.f k (rowMarks m l) (m : Int)) ((m + bulk l : Nat) : Int) := by
  unfold laws_heldIntSS.f
  have key : ∀ (a b : List (List Int)), a ++ b = l → Ev (fun k => laws_heldIntSS.l0 k (rowMarks m l) ((m + bulk a : Nat) : Int) (a.length : Int)) ((m + bulk l : Nat) : Int) := by
    intro a b hab
    induction b generalizing a with
    | nil =>
      rw [List.append_nil] at hab
      subst hab
      refine Ev.step (fun k => by rw [laws_heldIntSS.l0]) ?_
      exact ev_neg (by rw [rowMarks_length]; omega) (ev_val rfl)
    | cons r b ih =>
      have hlen : a.length < l.length := by rw [← hab]; simp
      have hbl : bulk a + r.length ≤ bulk l := by rw [← hab, bulk_append]; simp only [bulk]; omega
      have hrow : rd_L1 (rowMarks m l) (a.length : Int) = marks (m + bulk a) r.length := by
        rw [rows_nat, ← hab, rowMarks_append, List.getD_eq_getElem?_getD, List.getElem?_append_right (by rw [rowMarks_length]; exact Nat.le_refl _), rowMarks_length, Nat.sub_self]
        rfl
      have := ih (a ++ [r]) (by rw [← hab]; simp)
      rw [bulk_append, List.length_append] at this
      simp only [bulk, List.length_cons, List.length_nil, Nat.add_zero, Nat.zero_add] at this
      refine Ev.step (fun k => by rw [laws_heldIntSS.l0]) ?_
      refine ev_pos (by rw [rowMarks_length]; omega) (ev_pos (by omega) ?_)
      rw [hrow]
      refine Ev.bind (heldIntS_ev (m + bulk a) r.length (by omega) (by omega)) (ev_neg (by omega) ?_)
      rw [wrap_succ (by omega), Nat.add_assoc]
      exact this
  have := key [] l rfl
  simpa [bulk] using this
end
end Go.Proofs.Ytljjjdgnpnnmoaa.Q

set_option linter.unusedVariables false
set_option linter.unusedSimpArgs false
namespace Go.Proofs.Ytljjjdgnpnnmoaa.Q
open Go.RowKit Go.Proofs.Ytljjjdgnpnnmoaa.F Go.Proofs.YtljjjdgnpnnmoaaW.PrintWords Go.Proofs.YtljjjdgnpnnmoaaW.PrintLast Go.Proofs.YtljjjdgnpnnmoaaW.PrintMore
section
variable {w W : World} {L L' : List Ob} {o : Ob} {ok ok' : Nat → Prop} {v0 v1 u0 u1 : Value} {n : List Int} {m : List (List Int)}
theorem St.drop (h : St w W (o :: L)) : St w W L := ⟨h.below, fun p hp => h.own p (List.mem_cons_of_mem _ hp), (List.pairwise_cons.1 h.apart).2⟩
def obB (b : Nat) (cs : Array Value) (t : Nat) : Ob := ⟨fun k => k = b, fun W => W.heap[b]? = some (.cells cs t (0, 0))⟩
theorem firmB {b : Nat} {cs : Array Value} {t : Nat} : Firm (obB b cs t) := fun _ _ h hm => (hm b rfl (blk_lt h)).trans h
theorem St.cellB (h : St w W L) {b t : Nat} {cs : Array Value} (i : Nat) (hi : L[i]? = some (obB b cs t)) (j : Nat) {v : Value} (hv : cs[j]? = some v) : W.cell? ⟨b, j, none⟩ = some v := (blk_cell (show W.heap[b]? = some (.cells cs t (0, 0)) from h.get i hi) j).trans hv
theorem St.box (h : St w W L) (cs : Array Value) (t : Nat) : St w (W.alloc (.cells cs t (0, 0))) (obB W.heap.size cs t :: L) := by
  have e1 : (W.alloc (.cells cs t (0, 0))).heap.size = W.heap.size + 1 := by show (W.heap.push _).size = _; exact Array.size_push ..
  refine h.add (o := obB W.heap.size cs t) (below_alloc (Below.refl _ _) _) (fun k hk => ?_) ?_ firmB
  · have h1 : k = W.heap.size := hk
    omega
  · show (W.heap.push _)[W.heap.size]? = _
    exact Array.getElem?_push_size
theorem eqTableau_st_same (h : St w W L) (h0 : Reads (Kd.int .i64) W v0 n) (h1 : Reads (Kd.slice 3 (Kd.int .i64)) W v1 m) (h2 : Reads (Kd.int .i64) W u0 n) (h3 : Reads (Kd.slice 3 (Kd.int .i64)) W u1 m)
    (hn : n.length ≤ 1152921504606846976) (hm : m.length ≤ 1152921504606846976) (hb : ∀ r ∈ m, r.length ≤ 1152921504606846976) :
    Calls Try.prog 14 #[.agg #[v0, v1], .agg #[u0, u1]] W fun e W' => e = .returned (.bool true) ∧ St w W' L := by
  obtain ⟨A0, c0, rfl, hc0, hC0⟩ := h0
  obtain ⟨A1, c1, rfl, hc1, hC1⟩ := h1
  obtain ⟨A2, c2, rfl, hc2, hC2⟩ := h2
  obtain ⟨A3, c3, rfl, hc3, hC3⟩ := h3
  have hE : Ev (fun k => laws_eqTableau.f k n m n m) true := by
    unfold laws_eqTableau.f
    exact Ev.bind (eqIntS_ev n n hn) (ev_pos (by simp) (Ev.bind (eqIntSS_ev m m hm hb) (ev_pos (by simp) (ev_val rfl))))
  obtain ⟨K, hK⟩ := hE
  refine (laws_eqTableau.calls K A0 c0 n A1 c1 m A2 c2 n A3 c3 m true W hC0 hc0 hC1 hc1 hC2 hc2 hC3 hc3 (hK K (Nat.le_refl _))).mono ?_
  rintro e W' ⟨rfl, hd⟩
  exact ⟨rfl, h.quiet hd⟩
theorem heldTableau_st (h : St w W L) (a : Nat) (m : List (List Int)) (q : Nat) (h0 : Reads (Kd.int .i64) W v0 (marks q a)) (h1 : Reads (Kd.slice 3 (Kd.int .i64)) W v1 (rowMarks (q + a) m))
    (hq : q ≤ 576460752303423488) (hn : a ≤ 576460752303423488) (hm : m.length ≤ 576460752303423488) (hb : bulk m ≤ 576460752303423488) :
    Calls Try.prog 23 #[.agg #[v0, v1], .int .i64 (q : Int)] W fun e W' => e = .returned (.int .i64 ((q + a + bulk m : Nat) : Int)) ∧ St w W' L := by
  obtain ⟨A0, c0, rfl, hc0, hC0⟩ := h0
  obtain ⟨A1, c1, rfl, hc1, hC1⟩ := h1
  have hE : Ev (fun k => laws_heldTableau.f k (marks q a) (rowMarks (q + a) m) (q : Int)) ((q + a + bulk m : Nat) : Int) := by
    unfold laws_heldTableau.f
    exact Ev.bind (heldIntS_ev q a (by omega) (by omega)) (ev_neg (by omega) (Ev.bind (heldIntSS_ev m (q + a) (by omega) (by omega) (by omega)) (ev_neg (by omega) (ev_val rfl))))
  obtain ⟨K, hK⟩ := hE
  refine (laws_heldTableau.calls K A0 c0 _ A1 c1 _ (q : Int) _ W hC0 hc0 hC1 hc1 (hK K (Nat.le_refl _))).mono ?_
  rintro e W' ⟨rfl, hd⟩
  exact ⟨rfl, h.quiet hd⟩
set_option maxHeartbeats 4000000 in
set_option maxRecDepth 100000 in
theorem markTableau_st (h : St w W L) (i j : Nat) (hi : L[i]? = some (obR (Kd.int .i64) 3 w ok v0 n)) (hij : i ≠ j) (hj : L[j]? = some (obS (Kd.slice 3 (Kd.int .i64)) 22 w ok' v1 m)) (q : Nat)
    (hq : q ≤ 576460752303423488) (hn : n.length ≤ 576460752303423488) (hm : m.length ≤ 576460752303423488) (hb : bulk m ≤ 576460752303423488)
    (hL : (L.set i (obR (Kd.int .i64) 3 w ok v0 (marks q n.length))).set j (obS (Kd.slice 3 (Kd.int .i64)) 22 w ok' v1 (rowMarks (q + n.length) m)) = L') :
    Calls Try.prog 18 #[.agg #[v0, v1], .int .i64 (q : Int)] W fun e W' => e = .returned (.int .i64 ((q + n.length + bulk m : Nat) : Int)) ∧ St w W' L' := by
  obtain ⟨A0, c0, rfl, _, _⟩ := h.readR i hi
  obtain ⟨A1, c1, rfl, _, _⟩ := h.readS j hj
  have H0 := Aside0.mk h
  have HI := Aside0.mk hi
  have HJ := Aside0.mk hj
  have HF := Aside0.mk (And.intro hq (And.intro hn (And.intro hm hb)))
  clear h hi hj hq hn hm hb
  go_enter Try.func18, Try.ntmps18
  go_wp2_with (first
    | ((with_reducible refine gate_dst (N := 2) rfl ?_); refine box_event ?hg (N := 2) ?hd (cs := #[.slice A0 n.length c0, .slice A1 m.length c1]) (t := 28) ?hr ?_; (case hd => rfl); (case hg => rfl); (case hr => first | (go_simp; done) | (go_simp; rfl)); intro b hb w1 hx hl; have H1 := Aside0.mk (H0.out.add (o := obB b #[.slice A0 n.length c0, .slice A1 m.length c1] 28) hl (fun k hk => by have h1 : k = b := hk; have h2 := blk_lt hx; omega) hx firmB); have hc0 : w1.cell? ⟨b, 0, none⟩ = some (.slice A0 n.length c0) := (blk_cell hx 0).trans rfl; clear hx hl hb)
    | (go_at_call 19; refine (markIntS_st (L' := obB b #[.slice A0 n.length c0, .slice A1 m.length c1] 28 :: L.set i (obR (Kd.int .i64) 3 w ok (.slice A0 n.length c0) (marks q n.length))) H1.out (i + 1) HI.out q (by have := HF.out; omega) (by have := HF.out; omega) rfl).mono ?_; rintro e w2 ⟨rfl, h_⟩; have H2 := Aside0.mk h_; have hc1 : w2.cell? ⟨b, 1, none⟩ = some (.slice A1 m.length c1) := (blk_cell (show w2.heap[b]? = some (.cells #[.slice A0 n.length c0, .slice A1 m.length c1] 28 (0, 0)) from h_.get 0 rfl) 1).trans rfl; clear h_ H1 hc0)
    | (go_at_call 42; refine (markIntSS_st (L' := obB b #[.slice A0 n.length c0, .slice A1 m.length c1] 28 :: (L.set i (obR (Kd.int .i64) 3 w ok (.slice A0 n.length c0) (marks q n.length))).set j (obS (Kd.slice 3 (Kd.int .i64)) 22 w ok' (.slice A1 m.length c1) (rowMarks (q + n.length) m))) H2.out (j + 1) ((List.getElem?_set_ne hij).trans HJ.out) (q + n.length) (by have := HF.out; omega) (by have := HF.out; omega) (by have := HF.out; omega) rfl).mono ?_; rintro e w3 ⟨rfl, h_⟩; have H3 := Aside0.mk h_; clear h_ H2 hc1))
  go_ret
  exact ⟨rfl, hL ▸ H3.out.drop⟩
end
end Go.Proofs.Ytljjjdgnpnnmoaa.Q

set_option linter.unusedVariables false
set_option linter.unusedSimpArgs false
namespace Go.Proofs.Ytljjjdgnpnnmoaa.Q
open Go.RowKit Go.Proofs.Ytljjjdgnpnnmoaa.F Go.Proofs.YtljjjdgnpnnmoaaW.PrintWords Go.Proofs.YtljjjdgnpnnmoaaW.PrintLast Go.Proofs.YtljjjdgnpnnmoaaW.PrintMore
theorem toTableau_ev (n : List Int) (m : List (List Int)) (hn : n.length ≤ 1048576) (hm : m.length ≤ 1048576) (hr : ∀ r ∈ m, r.length ≤ 1048576) : Ev (fun k => laws_toTableau.f k n m) (n, m) := by
  unfold laws_toTableau.f
  exact Ev.bind (toIntS_ev n hn) (Ev.bind (toIntSS_ev m hm hr) (ev_val rfl))
end Go.Proofs.Ytljjjdgnpnnmoaa.Q

set_option linter.unusedVariables false
set_option linter.unusedSimpArgs false
namespace Go.Proofs.Ytljjjdgnpnnmoaa.Q
open Go.RowKit Go.Proofs.Ytljjjdgnpnnmoaa.F Go.Proofs.YtljjjdgnpnnmoaaW.PrintWords Go.Proofs.YtljjjdgnpnnmoaaW.PrintLast Go.Proofs.YtljjjdgnpnnmoaaW.PrintMore
section
variable {w W : World} {L L' : List Ob} {v0 v1 : Value} {n : List Int} {m : List (List Int)}
theorem St.boxAt (h : St w W L) (cs : Array Value) (t : Nat) {b : Nat} (hb : b = W.heap.size) : St w (W.alloc (.cells cs t (0, 0))) (obB b cs t :: L) := by
  subst hb
  exact h.box cs t
theorem szTableau_evb (n : List Int) (m : List (List Int)) (left : Int) (h0 : 0 ≤ left) (h1 : left ≤ 1048576) (hn : n.length ≤ maxLen) (hm : m.length ≤ maxLen) (hr : ∀ r ∈ m, r.length ≤ maxLen) :
    ∃ z, Ev (fun k => laws_szTableau.f k n m left) z ∧ (z < 0 ∨ (0 ≤ z ∧ z = left - (n.length : Int) - (m.length : Int) - (bulk m : Int))) := by
  unfold laws_szTableau.f
  by_cases h2 : left - (n.length : Int) < 0
  · refine ⟨-1, ev_bindc (szIntS_eq n left (by omega) (by omega) hn) ?_, .inl (by omega)⟩
    rw [if_pos h2]
    exact ev_pos (by omega) (ev_val rfl)
  · obtain ⟨z, hz, hp⟩ := szIntSS_ev m (left - (n.length : Int)) (by omega) (by omega) hm hr
    refine ⟨if z < 0 then -1 else z, ev_bindc (szIntS_eq n left (by omega) (by omega) hn) ?_, ?_⟩
    · rw [if_neg h2]
      refine ev_neg h2 (Ev.bind hz (ev_ite (fun h => ev_val (by rw [if_pos h])) (fun h => ev_val (by rw [if_neg h]))))
    · by_cases h : z < 0
      · rw [if_pos h]; exact .inl (by omega)
      · rw [if_neg h]
        exact .inr (by omega)
theorem szTableau_st {a z : Int} (h : St w W L) (h0 : Reads (Kd.int .i64) W v0 n) (h1 : Reads (Kd.slice 3 (Kd.int .i64)) W v1 m) (hE : Ev (fun k => laws_szTableau.f k n m a) z) :
    Calls Try.prog 10 #[.agg #[v0, v1], .int .i64 a] W fun e W' => e = .returned (.int .i64 z) ∧ St w W' L := by
  obtain ⟨A0, c0, rfl, hc0, hC0⟩ := h0
  obtain ⟨A1, c1, rfl, hc1, hC1⟩ := h1
  obtain ⟨K, hK⟩ := hE
  refine (laws_szTableau.calls K A0 c0 n A1 c1 m a z W hC0 hc0 hC1 hc1 (hK K (Nat.le_refl _))).mono ?_
  rintro e W' ⟨rfl, hd⟩
  exact ⟨rfl, h.quiet hd⟩
theorem toTableau_st (h : St w W L) (h0 : Reads (Kd.int .i64) W v0 n) (h1 : Reads (Kd.slice 3 (Kd.int .i64)) W v1 m) (hn : n.length ≤ 1048576) (hm : m.length ≤ 1048576) (hb : ∀ r ∈ m, r.length ≤ 1048576) :
    Calls Try.prog 12 #[.agg #[v0, v1]] W fun e W' => ∃ u0 u1 ok0 ok1, e = .returned (.agg #[u0, u1]) ∧ St w W' (obR (Kd.int .i64) 3 w ok0 u0 n :: obS (Kd.slice 3 (Kd.int .i64)) 22 w ok1 u1 m :: L) := by
  obtain ⟨A0, c0, rfl, hc0, hC0⟩ := h0
  obtain ⟨A1, c1, rfl, hc1, hC1⟩ := h1
  obtain ⟨K, hK⟩ := toTableau_ev n m hn hm hb
  refine (laws_toTableau.calls K A0 c0 n A1 c1 m n m W hC0 hc0 hC1 hc1 (hK K (Nat.le_refl _))).mono ?_
  rintro e W' ⟨u0, u1, rfl, hR, hS, hB⟩
  obtain ⟨ok0, ok1, h1⟩ := St.addRS rfl h hB hR hS
  exact ⟨u0, u1, ok0, ok1, rfl, h1⟩
end
end Go.Proofs.Ytljjjdgnpnnmoaa.Q

set_option linter.unusedVariables false
set_option linter.unusedSimpArgs false
namespace Go.Proofs.Ytljjjdgnpnnmoaa.Q
open Go.RowKit Go.Proofs.Ytljjjdgnpnnmoaa.F Go.Proofs.YtljjjdgnpnnmoaaW.PrintWords Go.Proofs.YtljjjdgnpnnmoaaW.PrintLast Go.Proofs.YtljjjdgnpnnmoaaW.PrintMore
section
open Go.ChangeShapes Go.WideShapes
variable {H : Type} {enc : TypeId × Value → H} {P : Program} {W : World}
theorem open_ints_C {t e : TypeId} {k : IntKind} {fuel : Nat} {v : Value} {x : DataW H × List MemPlace} (ht : P.underlying t = some (.slice e)) (he : P.underlying e = some (.int k)) (hc : P.cellsOf e = 1)
    (h : DataW.trod enc P W 0 (fun _ => true) true fuel t [v] = some x) :
    ∃ (a : Option Addr) (l : List Int) (cap : Nat), v = .slice a l.length cap ∧ l.length ≤ cap ∧ l.length ≤ maxLen ∧ (Kd.int k).C W a l.length l ∧ ∀ n ∈ l, (Lit.int k n).wf = true := by
  rcases open_ints ht he hc h with ⟨hcs, _⟩ | ⟨a, len, cap, zs, hcs, _, hl, hm, hz, _, hcell, hw⟩
  · obtain rfl : v = .slice none 0 0 := by simpa using hcs
    exact ⟨none, [], 0, rfl, Nat.le_refl _, Nat.zero_le _, Kd.C_nil _ _, by simp⟩
  · obtain rfl : v = .slice (some a) len cap := by simpa using hcs
    simp only [if_true] at hz
    have hlen : (zs.take len).length = len := by rw [List.length_take, hz]; omega
    refine ⟨some a, zs.take len, cap, by rw [hlen], by rw [hlen]; exact hl, by rw [hlen]; omega, ⟨rfl, by rw [hlen]; unfold maxLen at hm; omega, fun _ => ⟨a, rfl, fun j p hj => ?_⟩⟩, fun n hn => hw n (List.mem_of_mem_take hn)⟩
    have hjl : j < len := by have := (List.getElem?_eq_some_iff.1 hj).1; omega
    refine ⟨[.int k p], rfl, rfl, fun i u hu => ?_⟩
    cases i with
    | zero =>
      obtain rfl : Value.int k p = u := by simpa using hu
      have := hcell j (by omega)
      rw [show j * (Kd.int k).sz + 0 = j from by show j * 1 + 0 = j; omega, this]
      rw [List.getElem?_take, if_pos hjl] at hj
      rw [List.getD_eq_getElem?_getD, hj]; rfl
    | succ i => simp at hu
theorem open_rows_C {t e q : TypeId} {k : IntKind} {fuel : Nat} {v : Value} {x : DataW H × List MemPlace} (ht : P.underlying t = some (.slice e)) (he : P.underlying e = some (.slice q)) (hq : P.underlying q = some (.int k))
    (ce : P.cellsOf e = 1) (cq : P.cellsOf q = 1) (h : DataW.trod enc P W 0 (fun _ => true) true fuel t [v] = some x) :
    ∃ (a : Option Addr) (l : List (List Int)) (cap : Nat), v = .slice a l.length cap ∧ l.length ≤ cap ∧ l.length ≤ maxLen ∧ (Kd.slice q (Kd.int k)).C W a l.length l ∧ (∀ r ∈ l, r.length ≤ maxLen) ∧ ∀ r ∈ l, ∀ n ∈ r, (Lit.int k n).wf = true := by
  rcases Go.Deep.open_int_rows ht he hq ce cq h with ⟨hcs, _⟩ | ⟨a, len, cap, A, L, C, Z, hcs, _, hl, hm, _, hrow⟩
  · obtain rfl : v = .slice none 0 0 := by simpa using hcs
    exact ⟨none, [], 0, rfl, Nat.le_refl _, Nat.zero_le _, Kd.C_nil _ _, by simp, by simp⟩
  · obtain rfl : v = .slice (some a) len cap := by simpa using hcs
    have hlen : ((List.range len).map fun r => (Z r).take (L r)).length = len := by simp
    have hel : ∀ r, r < len → ((Z r).take (L r)).length = L r := by
      intro r hr
      obtain ⟨_, h1, _, h3, _⟩ := hrow r (by omega)
      rw [List.length_take, h3]; omega
    refine ⟨some a, (List.range len).map fun r => (Z r).take (L r), cap, by rw [hlen], by rw [hlen]; exact hl, by rw [hlen]; omega, ⟨rfl, by rw [hlen]; unfold maxLen at hm; omega, fun _ => ⟨a, rfl, fun j p hj => ?_⟩⟩, ?_, ?_⟩
    · have hjl : j < len := by have := (List.getElem?_eq_some_iff.1 hj).1; omega
      have hp : (Z j).take (L j) = p := by
        rw [List.getElem?_map, List.getElem?_range hjl] at hj
        simpa using hj
      subst hp
      obtain ⟨h0, h1, h2, h3, h4, h5, h6⟩ := hrow j (by omega)
      have hL := hel j hjl
      refine ⟨[.slice (A j) (L j) (C j)], rfl, ⟨A j, C j, by rw [hL], by rw [hL]; exact h1, rfl, by rw [hL]; unfold maxLen at h2; omega, fun hpos => ?_⟩, fun i u hu => ?_⟩
      · rw [hL] at hpos
        cases hA : A j with
        | none => have := h5 hA; omega
        | some a' =>
          refine ⟨a', rfl, fun c y hc => ?_⟩
          have hcl : c < L j := by have := (List.getElem?_eq_some_iff.1 hc).1; omega
          refine ⟨[.int k y], rfl, rfl, fun i u hu => ?_⟩
          cases i with
          | zero =>
            obtain rfl : Value.int k y = u := by simpa using hu
            rw [show c * (Kd.int k).sz + 0 = c from by show c * 1 + 0 = c; omega, (h6 a' hA).2 c (by omega)]
            rw [List.getElem?_take, if_pos hcl] at hc
            rw [List.getD_eq_getElem?_getD, hc]; rfl
          | succ i => simp at hu
      · cases i with
        | zero =>
          obtain rfl : Value.slice (A j) (L j) (C j) = u := by simpa using hu
          rw [show j * (Kd.slice q (Kd.int k)).sz + 0 = j from by show j * 1 + 0 = j; omega]
          exact h0
        | succ i => simp at hu
    · intro r hr
      obtain ⟨j, hj, rfl⟩ := List.mem_map.1 hr
      have hjl := List.mem_range.1 hj
      obtain ⟨_, h1, h2, _⟩ := hrow j (by omega)
      rw [hel j hjl]; omega
    · intro r hr n hn
      obtain ⟨j, hj, rfl⟩ := List.mem_map.1 hr
      have hjl := List.mem_range.1 hj
      obtain ⟨_, _, _, _, h4, _⟩ := hrow j (by omega)
      exact h4 n (List.mem_of_mem_take hn)
end
end Go.Proofs.Ytljjjdgnpnnmoaa.Q
