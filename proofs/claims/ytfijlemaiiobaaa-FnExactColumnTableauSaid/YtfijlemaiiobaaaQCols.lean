/- The columns of a list of rows, and inserting a number by columns; no condition. -/
import Derived.Test.YtfijlemaiiobaaaF0
import Derived.Test.YtfijlemaiiobaaaF4
import Derived.Test.YtfijlemaiiobaaaQBase
import Derived.Test.YtfijlemaiiobaaaQRows
set_option linter.unusedVariables false
set_option linter.unusedSimpArgs false
namespace Go.Proofs.Ytfijlemaiiobaaa.Q
open Go.RowKit Go.Proofs.Ytfijlemaiiobaaa.F Go.Proofs.YtfijlemaiiobaaaW.PrintWords Go.Proofs.YtfijlemaiiobaaaW.PrintLast Go.Proofs.YtfijlemaiiobaaaW.PrintMore
/-- the columns with one row more -/
def addRow : List (List Int) → List Int → List (List Int)
  | C, [] => C
  | [], n :: r => [n] :: addRow [] r
  | c :: C, n :: r => (c ++ [n]) :: addRow C r
def cols (m : List (List Int)) : List (List Int) := m.foldl addRow []
/-- the number at row i, column j -/
def at2 (m : List (List Int)) (i j : Nat) : Option Int := (m[i]?).bind (fun r => r[j]?)
theorem addRow_nil (C : List (List Int)) : addRow C [] = C := by cases C <;> rfl
theorem addRow_get : ∀ (C : List (List Int)) (r : List Int) (i : Nat), (addRow C r)[i]? = match r[i]? with | some n => some ((C[i]?).getD [] ++ [n]) | none => C[i]?
  | C, [], i => by rw [addRow_nil]; simp
  | [], n :: r, 0 => by simp [addRow]
  | [], n :: r, i + 1 => by
    have := addRow_get [] r i
    simpa [addRow] using this
  | c :: C, n :: r, 0 => by simp [addRow]
  | c :: C, n :: r, i + 1 => by
    have := addRow_get C r i
    simpa [addRow] using this
theorem addRow_length : ∀ (C : List (List Int)) (r : List Int), (addRow C r).length = max C.length r.length
  | C, [] => by rw [addRow_nil]; simp
  | [], n :: r => by
    have := addRow_length [] r
    simp only [addRow, List.length_cons, this, List.length_nil]
    omega
  | c :: C, n :: r => by
    have := addRow_length C r
    simp only [addRow, List.length_cons, this]
    omega
theorem addRow_mem : ∀ (C : List (List Int)) (r : List Int) (b : Nat), (∀ c ∈ C, c.length ≤ b) → ∀ c ∈ addRow C r, c ≠ [] ∧ c.length ≤ b + 1 ∨ c ∈ C
  | C, [], b, h => fun c hc => by rw [addRow_nil] at hc; exact .inr hc
  | [], n :: r, b, h => fun c hc => by
    simp only [addRow, List.mem_cons] at hc
    rcases hc with rfl | hc
    · exact .inl ⟨by simp, by simp⟩
    · exact addRow_mem [] r b (by simp) c hc
  | d :: C, n :: r, b, h => fun c hc => by
    simp only [addRow, List.mem_cons] at hc
    rcases hc with rfl | hc
    · have := h d (by simp)
      exact .inl ⟨by simp, by simp; omega⟩
    · rcases addRow_mem C r b (fun c hc => h c (by simp [hc])) c hc with h1 | h1
      · exact .inl h1
      · exact .inr (by simp [h1])
/-- a number put at the end of column i -/
def putCol (C : List (List Int)) (i : Nat) (n : Int) : List (List Int) := (if i = C.length then C ++ [[]] else C).set i ((if i = C.length then C ++ [[]] else C).getD i [] ++ [n])
theorem putCol_cons (c : List Int) (C : List (List Int)) (i : Nat) (n : Int) : putCol (c :: C) (i + 1) n = c :: putCol C i n := by
  unfold putCol
  by_cases h : i = C.length
  · rw [if_pos h, if_pos (by simp [h])]
    simp
  · rw [if_neg h, if_neg (by simpa using h)]
    simp
theorem addRow_snoc : ∀ (l : List Int) (C : List (List Int)) (n : Int), putCol (addRow C l) l.length n = addRow C (l ++ [n])
  | [], C, n => by
    rw [addRow_nil]
    cases C with
    | nil => rfl
    | cons c C => simp [putCol, addRow]
  | a :: l, [], n => by
    simp only [addRow, List.cons_append, List.length_cons]
    rw [putCol_cons, addRow_snoc l [] n]
  | a :: l, c :: C, n => by
    simp only [addRow, List.cons_append, List.length_cons]
    rw [putCol_cons, addRow_snoc l C n]
theorem cols_snoc (m : List (List Int)) (r : List Int) : cols (m ++ [r]) = addRow (cols m) r := by simp [cols]
theorem cols_bd (b : Nat) : ∀ (m : List (List Int)), (∀ r ∈ m, r.length ≤ b) → (cols m).length ≤ b ∧ ∀ c ∈ cols m, c ≠ [] ∧ c.length ≤ m.length := by
  intro m
  have key : ∀ (m C : List (List Int)) (q : Nat), (∀ r ∈ m, r.length ≤ b) → C.length ≤ b → (∀ c ∈ C, c ≠ [] ∧ c.length ≤ q) → (m.foldl addRow C).length ≤ b ∧ ∀ c ∈ m.foldl addRow C, c ≠ [] ∧ c.length ≤ q + m.length := by
    intro m
    induction m with
    | nil => intro C q _ h1 h2; exact ⟨h1, h2⟩
    | cons r m ih =>
      intro C q h h1 h2
      have hr := h r (by simp)
      have := ih (addRow C r) (q + 1) (fun s hs => h s (by simp [hs])) (by rw [addRow_length]; omega) (fun c hc => by
        rcases addRow_mem C r q (fun c hc => (h2 c hc).2) c hc with h3 | h3
        · exact h3
        · exact ⟨(h2 c h3).1, Nat.le_succ_of_le (h2 c h3).2⟩)
      refine ⟨this.1, fun c hc => ⟨(this.2 c hc).1, ?_⟩⟩
      have := (this.2 c hc).2
      rw [List.length_cons]; omega
  intro h
  have := key m [] 0 h (by simp) (by simp)
  simpa [cols] using this
/-- lengths never grow -/
def Desc (C : List (List Int)) : Prop := C.Pairwise (fun a b => b.length ≤ a.length)
theorem at2_lt {m : List (List Int)} {i j : Nat} {v : Int} (h : at2 m i j = some v) : ∃ hi : i < m.length, ∃ hj : j < m[i].length, m[i][j] = v := by
  unfold at2 at h
  obtain ⟨r, h1, h2⟩ := Option.bind_eq_some_iff.1 h
  obtain ⟨hi, rfl⟩ := List.getElem?_eq_some_iff.1 h1
  obtain ⟨hj, h3⟩ := List.getElem?_eq_some_iff.1 h2
  exact ⟨hi, hj, h3⟩
theorem at2_append (P : List (List Int)) (c : List Int) (j i : Nat) : at2 (P ++ [c]) j i = if j < P.length then at2 P j i else if j = P.length then c[i]? else none := by
  unfold at2
  rw [List.getElem?_append]
  split
  · rfl
  · rename_i h
    split
    · rename_i h2; subst h2; simp
    · rename_i h2
      rw [List.getElem?_eq_none (by simp; omega)]
      rfl
theorem cols_at2 (C : List (List Int)) (h : Desc C) : ∀ i j, at2 (cols C) i j = at2 C j i := by
  have key : ∀ (C P R : List (List Int)), (∀ i j, at2 R i j = at2 P j i) → (P = [] → R = []) → Desc (P ++ C) → ∀ i j, at2 (C.foldl addRow R) i j = at2 (P ++ C) j i := by
    intro C
    induction C with
    | nil => intro P R h1 _ _ i j; simpa using h1 i j
    | cons c C ih =>
      intro P R h1 h2 h3
      rw [List.foldl_cons, show P ++ c :: C = (P ++ [c]) ++ C by simp]
      refine ih (P ++ [c]) (addRow R c) ?_ (by simp) (by simpa using h3)
      intro i j
      have hp : ∀ p ∈ P, c.length ≤ p.length := fun p hp => (List.pairwise_append.1 h3).2.2 p hp c (by simp)
      rw [at2_append]
      show ((addRow R c)[i]?).bind (fun r => r[j]?) = _
      rw [addRow_get]
      cases hc : c[i]? with
      | none =>
        show at2 R i j = _
        rw [h1]
        split
        · rfl
        · rename_i h4
          unfold at2
          rw [List.getElem?_eq_none (by omega)]
          split <;> rfl
      | some n =>
        have hi : i < c.length := (List.getElem?_eq_some_iff.1 hc).1
        have hlen : ((R[i]?).getD []).length = P.length ∧ ∀ q, ((R[i]?).getD [])[q]? = at2 R i q := by
          have e : ∀ q, ((R[i]?).getD [])[q]? = at2 R i q := by
            intro q
            unfold at2
            cases R[i]? <;> simp
          refine ⟨?_, e⟩
          have h5 : ∀ q, q < P.length ↔ q < ((R[i]?).getD []).length := by
            intro q
            have h6 : ((R[i]?).getD [])[q]? = at2 P q i := by rw [e, h1]
            constructor
            · intro hq
              have h7 : at2 P q i = some (P[q][i]'(by have := hp P[q] (List.getElem_mem hq); omega)) := by
                unfold at2
                rw [List.getElem?_eq_getElem hq]
                simp
              rw [h7] at h6
              exact (List.getElem?_eq_some_iff.1 h6).1
            · intro hq
              rw [List.getElem?_eq_getElem hq] at h6
              exact (at2_lt h6.symm).1
          have h8 := h5 P.length
          have h9 := h5 ((R[i]?).getD []).length
          omega
        show ((R[i]?).getD [] ++ [n])[j]? = _
        rw [List.getElem?_append, hlen.1]
        split
        · rw [hlen.2, h1]
        · rename_i h4
          split
          · rename_i h5; subst h5; simp
          · rw [List.getElem?_eq_none (by simp; omega)]
  have := key C [] [] (by intro i j; simp [at2]) (fun _ => rfl) (by simpa using h)
  simpa [cols] using this
theorem ext2 {A B : List (List Int)} (h : ∀ i j, at2 A i j = at2 B i j) (ha : ∀ a ∈ A, a ≠ []) (hb : ∀ b ∈ B, b ≠ []) : A = B := by
  have some0 : ∀ (M : List (List Int)), (∀ a ∈ M, a ≠ []) → ∀ i, i < M.length ↔ (at2 M i 0).isSome = true := by
    intro M hM i
    constructor
    · intro hi
      unfold at2
      rw [List.getElem?_eq_getElem hi]
      have := hM M[i] (List.getElem_mem hi)
      cases hr : M[i] with
      | nil => exact absurd hr this
      | cons x r => simp
    · intro hs
      obtain ⟨v, hv⟩ := Option.isSome_iff_exists.1 hs
      exact (at2_lt hv).1
  have hl : A.length = B.length := by
    have h1 : ∀ i, i < A.length ↔ i < B.length := fun i => by rw [some0 A ha, some0 B hb, h]
    have h2 := h1 A.length
    have h3 := h1 B.length
    omega
  refine List.ext_getElem hl fun i hi1 hi2 => List.ext_getElem? fun j => ?_
  have := h i j
  unfold at2 at this
  rw [List.getElem?_eq_getElem hi1, List.getElem?_eq_getElem hi2] at this
  exact this
theorem idxFromC_split (p : Int → Bool) (l : List Int) : ∀ k : Nat, (idxFrom p l k < 0 ∧ ∀ e ∈ l, p e = false) ∨ (∃ q : Nat, ∃ hq : q < l.length, idxFrom p l k = ((k + q : Nat) : Int) ∧ p l[q] = true ∧ ∀ s, ∀ hs : s < q, p (l[s]'(by omega)) = false) := by
  induction l with
  | nil => intro k; exact .inl ⟨by simp [idxFrom], by simp⟩
  | cons x l ih =>
    intro k
    by_cases hx : p x = true
    · refine .inr ⟨0, by simp, ?_, by simpa using hx, fun s hs => by omega⟩
      simp [idxFrom, hx]
    · rcases ih (k + 1) with ⟨h1, h2⟩ | ⟨q, hq, h1, h2, h3⟩
      · refine .inl ⟨by simpa [idxFrom, hx] using h1, ?_⟩
        intro e he
        rcases List.mem_cons.1 he with rfl | he
        · simpa using hx
        · exact h2 e he
      · refine .inr ⟨q + 1, by simpa using hq, ?_, by simpa using h2, ?_⟩
        · simp only [idxFrom, hx]
          rw [if_neg (by simp), h1]
          omega
        · intro s hs
          cases s with
          | zero => simpa using hx
          | succ s => simpa using h3 s (by omega)
theorem bumpC_split (e : List Int) (x : Int) : (bumpC e x < 0 ∧ ∀ v ∈ e, v < x) ∨ (∃ q : Nat, q < e.length ∧ bumpC e x = (q : Int) ∧ x ≤ rd e (q : Int) ∧ ∀ s : Nat, s < q → rd e (s : Int) < x) := by
  rcases idxFromC_split (fun n => decide (x ≤ n)) e 0 with ⟨h1, h2⟩ | ⟨q, hq, h1, h2, h3⟩
  · exact .inl ⟨h1, fun v hv => by have := h2 v hv; simpa using this⟩
  · refine .inr ⟨q, hq, by unfold bumpC; rw [h1]; simp, ?_, fun s hs => ?_⟩
    · rw [rd_nat, List.getD_eq_getElem?_getD, List.getElem?_eq_getElem hq]
      simpa using h2
    · rw [rd_nat, List.getD_eq_getElem?_getD, List.getElem?_eq_getElem (by omega)]
      simpa using h3 s hs
theorem cols_ne (m : List (List Int)) : ∀ c ∈ cols m, c ≠ [] := fun c hc => ((cols_bd (bulk m) m (fun r hr => bulk_mem hr)).2 c hc).1
/-- rows and columns of one and the same tableau -/
def Grid (m X : List (List Int)) : Prop := (∀ i j, at2 m i j = at2 X j i) ∧ (∀ r ∈ m, r ≠ []) ∧ (∀ c ∈ X, c ≠ []) ∧ Desc X
theorem Grid.eq {m X : List (List Int)} (h : Grid m X) : m = cols X := ext2 (fun i j => by rw [h.1, cols_at2 X h.2.2.2]) h.2.1 (cols_ne X)
theorem desc_cols (m : List (List Int)) (h : Desc m) : Desc (cols m) := by
  unfold Desc
  rw [List.pairwise_iff_getElem]
  intro a b ha hb hab
  refine Nat.le_of_not_lt fun hlt => ?_
  have hlt2 := hlt
  generalize hi : (cols m)[a].length = i at hlt
  have h1 : at2 (cols m) b i = some ((cols m)[b][i]) := by
    unfold at2
    rw [List.getElem?_eq_getElem hb]
    simp
  rw [cols_at2 m h] at h1
  obtain ⟨g1, g2, _⟩ := at2_lt h1
  have h2 : at2 m i a = some (m[i][a]'(by omega)) := by
    unfold at2
    rw [List.getElem?_eq_getElem g1]
    simp
  rw [← cols_at2 m h] at h2
  obtain ⟨_, g3, _⟩ := at2_lt h2
  omega
theorem grid_cols (m : List (List Int)) (h : Desc m) (hne : ∀ r ∈ m, r ≠ []) : Grid m (cols m) :=
  ⟨fun i j => (cols_at2 m h j i).symm, hne, cols_ne m, desc_cols m h⟩
theorem upd_set (M : List (List Int)) (a b : Nat) (x : Int) (ha : a < M.length) (hb : b < M[a].length) (i j : Nat) : at2 (M.set a (M[a].set b x)) i j = if i = a ∧ j = b then some x else at2 M i j := by
  unfold at2
  rw [List.getElem?_set]
  by_cases h : a = i
  · subst h
    rw [if_pos rfl, if_pos ha, List.getElem?_eq_getElem ha]
    show (M[a].set b x)[j]? = if a = a ∧ j = b then some x else M[a][j]?
    rw [List.getElem?_set]
    by_cases h2 : b = j
    · subst h2; rw [if_pos rfl, if_pos hb, if_pos ⟨rfl, rfl⟩]
    · rw [if_neg h2, if_neg (fun g => h2 g.2.symm)]
  · rw [if_neg h, if_neg (fun g => h g.1.symm)]
theorem upd_push (M : List (List Int)) (a : Nat) (x : Int) (ha : a < M.length) (i j : Nat) : at2 (M.set a (M[a] ++ [x])) i j = if i = a ∧ j = M[a].length then some x else at2 M i j := by
  unfold at2
  rw [List.getElem?_set]
  by_cases h : a = i
  · subst h
    rw [if_pos rfl, if_pos ha, List.getElem?_eq_getElem ha]
    show (M[a] ++ [x])[j]? = if a = a ∧ j = M[a].length then some x else M[a][j]?
    by_cases h2 : j = M[a].length
    · subst h2; rw [if_pos ⟨rfl, rfl⟩]; simp
    · rw [if_neg (fun g => h2 g.2), List.getElem?_append]
      split
      · rfl
      · rw [List.getElem?_eq_none (by simp; omega), List.getElem?_eq_none (by omega)]
  · rw [if_neg h, if_neg (fun g => h g.1.symm)]
theorem upd_new (M : List (List Int)) (x : Int) (i j : Nat) : at2 (M ++ [[x]]) i j = if i = M.length ∧ j = 0 then some x else at2 M i j := by
  rw [at2_append]
  by_cases h : i < M.length
  · rw [if_pos h, if_neg (fun g => by omega)]
  · rw [if_neg h]
    have e : at2 M i j = none := by unfold at2; rw [List.getElem?_eq_none (by omega)]; rfl
    rw [e]
    by_cases h2 : i = M.length
    · rw [if_pos h2]
      by_cases h3 : j = 0
      · rw [if_pos ⟨h2, h3⟩]; subst h3; rfl
      · rw [if_neg (fun g => h3 g.2), List.getElem?_eq_none (by simp; omega)]
    · rw [if_neg h2, if_neg (fun g => h2 g.1)]
theorem set_mid (D E : List (List Int)) (e e' : List Int) : (D ++ e :: E).set D.length e' = D ++ e' :: E := by simp
theorem getElem_mid (D E : List (List Int)) (e : List Int) (h : D.length < (D ++ e :: E).length) : (D ++ e :: E)[D.length]'h = e := by simp
theorem row_len {m X : List (List Int)} (h : Grid m X) (i : Nat) (hi : i < m.length) (c : Nat) (h1 : c ≤ X.length) (h2 : ∀ j, ∀ hj : j < X.length, j < c → i < X[j].length) (h3 : ∀ j, ∀ hj : j < X.length, c ≤ j → X[j].length ≤ i) : m[i].length = c := by
  have key : ∀ j, j < m[i].length ↔ j < c := by
    intro j
    have e : at2 m i j = m[i][j]? := by unfold at2; rw [List.getElem?_eq_getElem hi]; rfl
    have e2 := h.1 i j
    rw [e] at e2
    constructor
    · intro hj
      rw [List.getElem?_eq_getElem hj] at e2
      obtain ⟨g1, g2, _⟩ := at2_lt e2.symm
      refine Nat.lt_of_not_le fun hc => ?_
      have := h3 j g1 hc
      omega
    · intro hj
      have hx := h2 j (by omega) hj
      have e3 : at2 X j i = some (X[j][i]) := by unfold at2; rw [List.getElem?_eq_getElem (by omega)]; simp
      rw [e3] at e2
      exact (List.getElem?_eq_some_iff.1 e2).1
  have h4 := key m[i].length
  have h5 := key c
  omega
theorem row_lt {m X : List (List Int)} (h : Grid m X) (i j : Nat) (hj : j < X.length) (hi : i < X[j].length) : ∃ hm : i < m.length, ∃ hk : j < m[i].length, m[i][j] = X[j][i] := by
  have e3 : at2 X j i = some (X[j][i]) := by unfold at2; rw [List.getElem?_eq_getElem hj]; simp
  rw [← h.1] at e3
  exact at2_lt e3
theorem rows_count {m e : List (List Int)} {c : List Int} (h : Grid m (c :: e)) : m.length = c.length := by
  have key : ∀ i, i < m.length ↔ i < c.length := by
    intro i
    have e2 := h.1 i 0
    constructor
    · intro hi
      have hne := h.2.1 m[i] (List.getElem_mem hi)
      have e : at2 m i 0 = some (m[i][0]'(List.length_pos_iff.2 hne)) := by unfold at2; rw [List.getElem?_eq_getElem hi]; simp
      rw [e] at e2
      obtain ⟨_, g2, _⟩ := at2_lt e2.symm
      exact g2
    · intro hi
      exact (row_lt h i 0 (by simp) (by simpa using hi)).1
  have h1 := key m.length
  have h2 := key c.length
  omega
theorem rows_none {m : List (List Int)} (h : Grid m []) : m = [] := h.eq
/-- one number turned -/
theorem Grid.turn {m D E : List (List Int)} {e : List Int} (h : Grid m (D ++ e :: E)) (k : Nat) (hk : k < e.length) (x : Int) :
    ∃ hm : k < m.length, Grid (m.set k (m[k].set D.length x)) (D ++ e.set k x :: E) ∧ D.length < m[k].length := by
  have hX : D.length < (D ++ e :: E).length := by simp
  have hXe := getElem_mid D E e hX
  obtain ⟨hm, hc, _⟩ := row_lt h k D.length hX (by rw [hXe]; exact hk)
  refine ⟨hm, ⟨fun i j => ?_, fun r hr => ?_, fun c hcm => ?_, ?_⟩, hc⟩
  · rw [upd_set m k D.length x hm hc, ← set_mid D E e (e.set k x)]
    have := upd_set (D ++ e :: E) D.length k x hX (by rw [hXe]; exact hk) j i
    rw [hXe] at this
    rw [this, h.1]
    by_cases g : i = k ∧ j = D.length
    · rw [if_pos g, if_pos ⟨g.2, g.1⟩]
    · rw [if_neg g, if_neg (fun q => g ⟨q.2, q.1⟩)]
  · rcases List.mem_or_eq_of_mem_set hr with g | g
    · exact h.2.1 r g
    · subst g
      exact List.length_pos_iff.1 (by rw [List.length_set]; omega)
  · rcases List.mem_append.1 hcm with g | g
    · exact h.2.2.1 c (by simp [g])
    · rcases List.mem_cons.1 g with g | g
      · subst g
        exact List.length_pos_iff.1 (by rw [List.length_set]; omega)
      · exact h.2.2.1 c (by simp [g])
  · have hd := h.2.2.2
    unfold Desc at hd ⊢
    rw [List.pairwise_append, List.pairwise_cons] at hd ⊢
    rw [List.length_set]
    refine ⟨hd.1, hd.2.1, fun a ha b hb => ?_⟩
    rcases List.mem_cons.1 hb with g | g
    · subst g
      rw [List.length_set]
      exact hd.2.2 a ha e (by simp)
    · exact hd.2.2 a ha b (by simp [g])
theorem desc_push {D E : List (List Int)} {e : List Int} (hd : Desc (D ++ e :: E)) (hD : ∀ d ∈ D, e.length < d.length) (x : Int) : Desc (D ++ (e ++ [x]) :: E) := by
  unfold Desc at hd ⊢
  rw [List.pairwise_append, List.pairwise_cons] at hd ⊢
  refine ⟨hd.1, ⟨fun b hb => ?_, hd.2.1.2⟩, fun a ha b hb => ?_⟩
  · have := hd.2.1.1 b hb
    rw [List.length_append]; omega
  · rcases List.mem_cons.1 hb with g | g
    · subst g
      have := hD a ha
      rw [List.length_append, List.length_singleton]; omega
    · exact hd.2.2 a ha b (by simp [g])
/-- a number put at the end of a column -/
theorem Grid.push {m D E : List (List Int)} {e : List Int} (h : Grid m (D ++ e :: E)) (x : Int) (hD : ∀ d ∈ D, e.length < d.length) :
    (D = [] → m.length = e.length ∧ Grid (m ++ [[x]]) ((e ++ [x]) :: E)) ∧ (D ≠ [] → ∃ hm : e.length < m.length, m[e.length].length = D.length ∧ Grid (m.set e.length (m[e.length] ++ [x])) (D ++ (e ++ [x]) :: E)) := by
  have hX : D.length < (D ++ e :: E).length := by simp
  have hXe := getElem_mid D E e hX
  have hpush := upd_push (D ++ e :: E) D.length x hX
  rw [hXe, set_mid] at hpush
  have hdesc := desc_push h.2.2.2 hD x
  have hcne : ∀ c ∈ D ++ (e ++ [x]) :: E, c ≠ [] := by
    intro c hcm
    rcases List.mem_append.1 hcm with g | g
    · exact h.2.2.1 c (by simp [g])
    · rcases List.mem_cons.1 g with g | g
      · subst g; simp
      · exact h.2.2.1 c (by simp [g])
  constructor
  · intro hnil
    subst hnil
    have hl := rows_count h
    refine ⟨hl, fun i j => ?_, fun r hr => ?_, hcne, hdesc⟩
    · have := hpush j i
      rw [List.nil_append] at this
      rw [upd_new, this, h.1, hl]
      by_cases g : i = e.length ∧ j = 0
      · rw [if_pos g, if_pos ⟨g.2, g.1⟩]
      · rw [if_neg g, if_neg (fun q => g ⟨q.2, q.1⟩)]
    · rcases List.mem_append.1 hr with g | g
      · exact h.2.1 r g
      · obtain rfl : r = [x] := by simpa using g
        simp
  · intro hne
    obtain ⟨d0, D0, rfl⟩ := List.exists_cons_of_ne_nil hne
    have h0 : e.length < m.length := by
      have := rows_count (e := D0 ++ e :: E) (c := d0) (by simpa using h)
      have := hD d0 (by simp)
      omega
    have hlen : m[e.length].length = (d0 :: D0).length := by
      refine row_len h e.length h0 _ (by simp) (fun j hj hjc => ?_) (fun j hj hjc => ?_)
      · rw [List.getElem_append_left hjc]
        exact hD _ (List.getElem_mem _)
      · rw [List.getElem_append_right hjc]
        have hd := (List.pairwise_append.1 h.2.2.2).2.1
        rw [List.pairwise_cons] at hd
        have hall : ∀ q, ∀ hq : q < (e :: E).length, (e :: E)[q].length ≤ e.length := by
          intro q hq
          cases q with
          | zero => exact Nat.le_refl _
          | succ q => exact hd.1 _ (List.getElem_mem _)
        exact hall _ _
    refine ⟨h0, hlen, fun i j => ?_, fun r hr => ?_, hcne, hdesc⟩
    · rw [upd_push m e.length x h0, hlen, hpush, h.1]
      by_cases g : i = e.length ∧ j = (d0 :: D0).length
      · rw [if_pos g, if_pos ⟨g.2, g.1⟩]
      · rw [if_neg g, if_neg (fun q => g ⟨q.2, q.1⟩)]
    · rcases List.mem_or_eq_of_mem_set hr with g | g
      · exact h.2.1 r g
      · subst g; simp
/-- a new column -/
theorem Grid.fresh {m D : List (List Int)} (h : Grid m D) (x : Int) :
    (D = [] → m = [] ∧ Grid [[x]] [[x]]) ∧ (D ≠ [] → ∃ hm : 0 < m.length, m[0].length = D.length ∧ Grid (m.set 0 (m[0] ++ [x])) (D ++ [[x]])) := by
  constructor
  · intro e
    subst e
    refine ⟨rows_none h, fun i j => ?_, by simp, by simp, by simp [Desc]⟩
    have h1 := upd_new [] x i j
    have h2 := upd_new [] x j i
    rw [List.nil_append, List.length_nil] at h1 h2
    rw [h1, h2]
    have e1 : ∀ a b, at2 [] a b = none := fun a b => rfl
    rw [e1, e1]
    by_cases g : i = 0 ∧ j = 0
    · rw [if_pos g, if_pos ⟨g.2, g.1⟩]
    · rw [if_neg g, if_neg (fun q => g ⟨q.2, q.1⟩)]
  · intro hne
    obtain ⟨d0, D0, rfl⟩ := List.exists_cons_of_ne_nil hne
    have hd0 : 0 < d0.length := List.length_pos_iff.2 (h.2.2.1 d0 (by simp))
    have h0 : 0 < m.length := by rw [rows_count h]; exact hd0
    have hlen : m[0].length = (d0 :: D0).length := by
      refine row_len h 0 h0 _ (Nat.le_refl _) (fun j hj _ => ?_) (fun j hj hjc => by omega)
      exact List.length_pos_iff.2 (h.2.2.1 _ (List.getElem_mem hj))
    refine ⟨h0, hlen, fun i j => ?_, fun r hr => ?_, fun c hc => ?_, ?_⟩
    · rw [upd_push m 0 x h0, hlen, upd_new, h.1]
      by_cases g : i = 0 ∧ j = (d0 :: D0).length
      · rw [if_pos g, if_pos ⟨g.2, g.1⟩]
      · rw [if_neg g, if_neg (fun q => g ⟨q.2, q.1⟩)]
    · rcases List.mem_or_eq_of_mem_set hr with g | g
      · exact h.2.1 r g
      · subst g; simp
    · rcases List.mem_append.1 hc with g | g
      · exact h.2.2.1 c g
      · obtain rfl : c = [x] := by simpa using g
        simp
    · unfold Desc
      rw [List.pairwise_append]
      refine ⟨h.2.2.2, by simp, fun a ha b hb => ?_⟩
      obtain rfl : b = [x] := by simpa using hb
      exact List.length_pos_iff.2 (h.2.2.1 a ha)
/-- what stands in a row never falls -/
def RowInc : List (List Int) → Prop
  | e :: e2 :: E => (∀ k : Nat, k < e2.length → rd e (k : Int) ≤ rd e2 (k : Int)) ∧ RowInc (e2 :: E)
  | _ => True
theorem insCols_bd : ∀ (C : List (List Int)) (x : Int) (b : Nat), (∀ c ∈ C, c.length ≤ b) → (insCols C x).length ≤ C.length + 1 ∧ ∀ c ∈ insCols C x, c.length ≤ b + 1
  | [], x, b, _ => ⟨by simp [insCols], fun c hc => by
      obtain rfl : c = [x] := by simpa [insCols] using hc
      simp⟩
  | r :: l, x, b, h => by
    have h1 := h r (by simp)
    have h2 : ∀ c ∈ l, c.length ≤ b := fun c hc => h c (by simp [hc])
    rw [insCols]
    by_cases hb : bumpC r x < 0
    · rw [if_pos hb]
      refine ⟨by simp, fun c hc => ?_⟩
      rcases List.mem_cons.1 hc with g | g
      · subst g; rw [List.length_append, List.length_singleton]; omega
      · have := h2 c g; omega
    · rw [if_neg hb]
      obtain ⟨g1, g2⟩ := insCols_bd l (rd r (bumpC r x)) b h2
      refine ⟨by simp only [List.length_cons]; omega, fun c hc => ?_⟩
      rcases List.mem_cons.1 hc with g | g
      · subst g; rw [List.length_set]; omega
      · exact g2 c g
end Go.Proofs.Ytfijlemaiiobaaa.Q
