/- Chains in words, the exchanges of Knuth, the insertion of a word into rows, and Greene's theorem; no condition. -/
import Derived.Test.YtfijlemaiiobaaaF0
import Derived.Test.YtfijlemaiiobaaaQBase
import Derived.Test.YtfijlemaiiobaaaQInsertWord
set_option linter.unusedVariables false
set_option linter.unusedSimpArgs false
namespace Go.Proofs.Ytfijlemaiiobaaa.Q
open Go.RowKit Go.Proofs.Ytfijlemaiiobaaa.F Go.Proofs.YtfijlemaiiobaaaW.PrintWords Go.Proofs.YtfijlemaiiobaaaW.PrintLast Go.Proofs.YtfijlemaiiobaaaW.PrintMore
section
/-- no chain of X is longer than k -/
def Short (r : Int → Int → Prop) (k : Nat) (X : List Int) : Prop := ∀ c : List Int, c.Sublist X → c.Pairwise r → c.length ≤ k
/-- n members of w can be chosen with no chain longer than k -/
def Fit (r : Int → Int → Prop) (k n : Nat) (w : List Int) : Prop := ∃ X, X.Sublist w ∧ X.length = n ∧ Short r k X
theorem pw3 {r : Int → Int → Prop} {a b c : List Int} : (a ++ b ++ c).Pairwise r ↔ a.Pairwise r ∧ b.Pairwise r ∧ c.Pairwise r ∧ (∀ x ∈ a, ∀ y ∈ b, r x y) ∧ (∀ x ∈ a, ∀ y ∈ c, r x y) ∧ (∀ x ∈ b, ∀ y ∈ c, r x y) := by
  rw [List.pairwise_append, List.pairwise_append]
  constructor
  · rintro ⟨⟨h1, h2, h3⟩, h4, h5⟩
    exact ⟨h1, h2, h4, h3, fun x hx y hy => h5 x (List.mem_append_left _ hx) y hy, fun x hx y hy => h5 x (List.mem_append_right _ hx) y hy⟩
  · rintro ⟨h1, h2, h3, h4, h5, h6⟩
    refine ⟨⟨h1, h2, h4⟩, h3, fun x hx y hy => ?_⟩
    rcases List.mem_append.1 hx with h | h
    · exact h5 x h y hy
    · exact h6 x h y hy
theorem sub_split {l a b c : List Int} (h : l.Sublist (a ++ b ++ c)) : ∃ x y z, l = x ++ y ++ z ∧ x.Sublist a ∧ y.Sublist b ∧ z.Sublist c := by
  obtain ⟨p, z, rfl, hp, hz⟩ := List.sublist_append_iff.1 h
  obtain ⟨x, y, rfl, hx, hy⟩ := List.sublist_append_iff.1 hp
  exact ⟨x, y, z, rfl, hx, hy, hz⟩
theorem sub_join {a b c x y z : List Int} (hx : x.Sublist a) (hy : y.Sublist b) (hz : z.Sublist c) : (x ++ y ++ z).Sublist (a ++ b ++ c) := (hx.append hy).append hz
theorem sub2 {a b : Int} {m : List Int} (h : m.Sublist [a, b]) : m = [] ∨ m = [a] ∨ m = [b] ∨ m = [a, b] := by
  cases h <;> rename_i h <;> cases h <;> rename_i h <;> cases h <;> simp
theorem sub3 {a b c : Int} {m : List Int} (h : m.Sublist [a, b, c]) : m = [] ∨ m = [a] ∨ m = [b] ∨ m = [c] ∨ m = [a, b] ∨ m = [a, c] ∨ m = [b, c] ∨ m = [a, b, c] := by
  cases h <;> rename_i h <;> cases h <;> rename_i h <;> cases h <;> rename_i h <;> cases h <;> simp
theorem Short.sub {r : Int → Int → Prop} {k : Nat} {X Y : List Int} (h : Short r k X) (hs : Y.Sublist X) : Short r k Y := fun c hc hp => h c (hc.trans hs) hp
theorem fit_gone {r : Int → Int → Prop} {k n : Nat} {U V : List Int} {y p q : Int} (h5 : ¬ r q p) (h : Fit r k n (U ++ [y, p, q] ++ V)) : Fit r k n (U ++ [y, q, p] ++ V) := by
  obtain ⟨X, hX, hn, hS⟩ := h
  obtain ⟨a, m, b, rfl, ha, hm, hb⟩ := sub_split hX
  have same : m.Sublist [y, q, p] → Fit r k n (U ++ [y, q, p] ++ V) := fun h => ⟨_, sub_join ha h hb, hn, hS⟩
  have swap : ∀ m' : List Int, m'.Sublist [y, q, p] → m'.length = m.length → (∀ d : List Int, d.Sublist m' → d.Pairwise r → d.Sublist m) → Fit r k n (U ++ [y, q, p] ++ V) := fun m' hm' hl hd => by
    refine ⟨a ++ m' ++ b, sub_join ha hm' hb, by simp [← hn, hl], fun c hc hp => ?_⟩
    obtain ⟨x, d, z, rfl, hx, hd', hz⟩ := sub_split hc
    exact hS _ (sub_join hx (hd d hd' (pw3.1 hp).2.1) hz) hp
  rcases sub3 hm with rfl | rfl | rfl | rfl | rfl | rfl | rfl | rfl
  · exact same (by simp)
  · exact same (by simp)
  · exact same (by simp)
  · exact same (by simp)
  · exact same (by simp)
  · exact same (by simp)
  · refine swap [q, p] (by simp) (by simp) fun d hd hp => ?_
    rcases sub2 hd with rfl | rfl | rfl | rfl
    · simp
    · simp
    · simp
    · simp [h5] at hp
  · refine swap [y, q, p] (by simp) (by simp) fun d hd hp => ?_
    rcases sub3 hd with rfl | rfl | rfl | rfl | rfl | rfl | rfl | rfl
    · simp
    · simp
    · simp
    · simp
    · simp
    · simp
    · simp [h5] at hp
    · simp [h5] at hp
theorem fit_made {r : Int → Int → Prop} {k n : Nat} {U V : List Int} {y p q : Int} (ht : ∀ a b c, r a b → r b c → r a c) (h1 : ∀ e, r e p → r e y) (h2 : r y q) (h3 : ∀ e, r y e → r p e) (h4 : ¬ r y p)
    (h : Fit r k n (U ++ [y, q, p] ++ V)) : Fit r k n (U ++ [y, p, q] ++ V) := by
  obtain ⟨X, hX, hn, hS⟩ := h
  obtain ⟨a, m, b, rfl, ha, hm, hb⟩ := sub_split hX
  have same : m.Sublist [y, p, q] → Fit r k n (U ++ [y, p, q] ++ V) := fun h => ⟨_, sub_join ha h hb, hn, hS⟩
  rcases sub3 hm with rfl | rfl | rfl | rfl | rfl | rfl | rfl | rfl
  · exact same (by simp)
  · exact same (by simp)
  · exact same (by simp)
  · exact same (by simp)
  · exact same (by simp)
  · exact same (by simp)
  · -- q and p are chosen, y is not
    by_cases hs : Short r k (a ++ [p, q] ++ b)
    · exact ⟨_, sub_join ha (by simp) hb, by simpa using hn, hs⟩
    · unfold Short at hs
      simp only [Classical.not_forall] at hs
      obtain ⟨c, hc, hp, hk⟩ := hs
      obtain ⟨d1, d2, d3, rfl, hd1, hd2, hd3⟩ := sub_split hc
      have hd : d2 = [p, q] := by
        rcases sub2 hd2 with rfl | rfl | rfl | rfl
        · exact absurd (hS _ (sub_join hd1 (by simp) hd3) hp) hk
        · exact absurd (hS _ (sub_join hd1 (by simp) hd3) hp) hk
        · exact absurd (hS _ (sub_join hd1 (by simp) hd3) hp) hk
        · rfl
      subst hd
      obtain ⟨p1, p2, p3, p4, p5, p6⟩ := pw3.1 hp
      refine ⟨a ++ [y, p] ++ b, sub_join ha (by simp) hb, by simpa using hn, fun c hc' hp' => ?_⟩
      obtain ⟨e1, e2, e3, rfl, he1, he2, he3⟩ := sub_split hc'
      obtain ⟨q1, q2, q3, q4, q5, q6⟩ := pw3.1 hp'
      rcases sub2 he2 with rfl | rfl | rfl | rfl
      · exact hS _ (sub_join he1 (by simp) he3) hp'
      · have s1 := hS (e1 ++ [q] ++ d3) (sub_join he1 (by simp) hd3) (pw3.2 ⟨q1, by simp, p3, fun x hx z hz => by
          obtain rfl : z = q := by simpa using hz
          exact ht _ _ _ (q4 x hx y (by simp)) h2, fun x hx z hz => ht _ _ _ (ht _ _ _ (q4 x hx y (by simp)) h2) (p6 q (by simp) z hz), fun x hx z hz => by
          obtain rfl : x = q := by simpa using hx
          exact p6 x (by simp) z hz⟩)
        have s2 := hS (d1 ++ [p] ++ e3) (sub_join hd1 (by simp) he3) (pw3.2 ⟨p1, by simp, q3, fun x hx z hz => by
          obtain rfl : z = p := by simpa using hz
          exact p4 x hx z (by simp), fun x hx z hz => ht _ _ _ (p4 x hx p (by simp)) (h3 z (q6 y (by simp) z hz)), fun x hx z hz => by
          obtain rfl : x = p := by simpa using hx
          exact h3 z (q6 y (by simp) z hz)⟩)
        simp at s1 s2 hk ⊢
        omega
      · exact hS _ (sub_join he1 (by simp) he3) hp'
      · simp [h4] at q2
  · refine ⟨a ++ [y, p, q] ++ b, sub_join ha (by simp) hb, by simpa using hn, fun c hc hp => ?_⟩
    obtain ⟨x, d, z, rfl, hx, hd, hz⟩ := sub_split hc
    obtain ⟨p1, p2, p3, p4, p5, p6⟩ := pw3.1 hp
    rcases sub3 hd with rfl | rfl | rfl | rfl | rfl | rfl | rfl | rfl
    · exact hS _ (sub_join hx (by simp) hz) hp
    · exact hS _ (sub_join hx (by simp) hz) hp
    · exact hS _ (sub_join hx (by simp) hz) hp
    · exact hS _ (sub_join hx (by simp) hz) hp
    · simp [h4] at p2
    · exact hS _ (sub_join hx (by simp) hz) hp
    · have := hS (x ++ [y, q] ++ z) (sub_join hx (by simp) hz) (pw3.2 ⟨p1, by simpa using h2, p3, fun u hu v hv => by
        have hup := p4 u hu p (by simp)
        rcases (by simpa using hv : v = y ∨ v = q) with rfl | rfl
        · exact h1 u hup
        · exact p4 u hu _ (by simp), p5, fun u hu v hv => by
        rcases (by simpa using hu : u = y ∨ u = q) with rfl | rfl
        · exact ht _ _ _ h2 (p6 q (by simp) v hv)
        · exact p6 _ (by simp) v hv⟩)
      simpa using this
    · simp [h4] at p2
theorem fit_before {r : Int → Int → Prop} {k n : Nat} {U V : List Int} {y p q : Int} (ht : ∀ a b c, r a b → r b c → r a c) (h1 : ∀ e, r e p → r e y) (h2 : r y q) (h3 : ∀ e, r y e → r p e) (h4 : ¬ r y p) (h5 : ¬ r q p) :
    Fit r k n (U ++ [y, q, p] ++ V) ↔ Fit r k n (U ++ [y, p, q] ++ V) := ⟨fit_made ht h1 h2 h3 h4, fit_gone h5⟩
theorem short_reverse {r : Int → Int → Prop} {k : Nat} {X : List Int} (h : Short r k X) : Short (fun a b => r b a) k X.reverse := fun c hc hp => by
  have := h c.reverse (by simpa using hc.reverse) (List.pairwise_reverse.2 hp)
  simpa using this
theorem fit_reverse {r : Int → Int → Prop} {k n : Nat} {w : List Int} : Fit r k n w ↔ Fit (fun a b => r b a) k n w.reverse := by
  constructor
  · rintro ⟨X, h1, h2, h3⟩
    exact ⟨X.reverse, h1.reverse, by simpa using h2, short_reverse h3⟩
  · rintro ⟨X, h1, h2, h3⟩
    exact ⟨X.reverse, by simpa using h1.reverse, by simpa using h2, short_reverse h3⟩
theorem fit_after {r : Int → Int → Prop} {k n : Nat} {U V : List Int} {y p q : Int} (ht : ∀ a b c, r a b → r b c → r a c) (h1 : ∀ e, r q e → r y e) (h2 : r p y) (h3 : ∀ e, r e y → r e q) (h4 : ¬ r q y) (h5 : ¬ r q p) :
    Fit r k n (U ++ [q, p, y] ++ V) ↔ Fit r k n (U ++ [p, q, y] ++ V) := by
  rw [fit_reverse, fit_reverse (w := U ++ [p, q, y] ++ V)]
  have := fit_before (r := fun a b => r b a) (k := k) (n := n) (U := V.reverse) (V := U.reverse) (y := y) (p := q) (q := p) (fun a b c x y => ht _ _ _ y x) h1 h2 h3 h4 h5
  simpa using this
/-- an exchange of Knuth -/
inductive Knuth : List Int → List Int → Prop
  | before (U V : List Int) (x y z : Int) : x < y → y ≤ z → Knuth (U ++ [y, x, z] ++ V) (U ++ [y, z, x] ++ V)
  | after (U V : List Int) (x y z : Int) : x ≤ y → y < z → Knuth (U ++ [x, z, y] ++ V) (U ++ [z, x, y] ++ V)
inductive Eqv : List Int → List Int → Prop
  | refl (w) : Eqv w w
  | step {u v} : Knuth u v → Eqv u v
  | symm {u v} : Eqv u v → Eqv v u
  | trans {u v w} : Eqv u v → Eqv v w → Eqv u w
theorem fit_fall_knuth {u v : List Int} (h : Knuth u v) (k n : Nat) : Fit (fun a b => b < a) k n u ↔ Fit (fun a b => b < a) k n v := by
  cases h with
  | before U V x y z h1 h2 => exact fit_before (p := z) (q := x) (fun _ _ _ _ _ => by omega) (fun _ _ => by omega) h1 (fun _ _ => by omega) (by omega) (by omega)
  | after U V x y z h1 h2 => exact fit_after (p := z) (q := x) (fun _ _ _ _ _ => by omega) (fun _ _ => by omega) h2 (fun _ _ => by omega) (by omega) (by omega)
theorem fit_rise_knuth {u v : List Int} (h : Knuth u v) (k n : Nat) : Fit (fun a b => a ≤ b) k n u ↔ Fit (fun a b => a ≤ b) k n v := by
  cases h with
  | before U V x y z h1 h2 => exact (fit_before (p := x) (q := z) (fun _ _ _ _ _ => by omega) (fun _ _ => by omega) h2 (fun _ _ => by omega) (by omega) (by omega)).symm
  | after U V x y z h1 h2 => exact (fit_after (p := x) (q := z) (fun _ _ _ _ _ => by omega) (fun _ _ => by omega) h1 (fun _ _ => by omega) (by omega) (by omega)).symm
theorem fit_eqv {u v : List Int} (h : Eqv u v) (k n : Nat) : (Fit (fun a b => b < a) k n u ↔ Fit (fun a b => b < a) k n v) ∧ (Fit (fun a b => a ≤ b) k n u ↔ Fit (fun a b => a ≤ b) k n v) := by
  induction h with
  | refl => exact ⟨Iff.rfl, Iff.rfl⟩
  | step h => exact ⟨fit_fall_knuth h k n, fit_rise_knuth h k n⟩
  | symm _ ih => exact ⟨ih.1.symm, ih.2.symm⟩
  | trans _ _ i j => exact ⟨i.1.trans j.1, i.2.trans j.2⟩
theorem Eqv.within {u v : List Int} (h : Eqv u v) (A B : List Int) : Eqv (A ++ u ++ B) (A ++ v ++ B) := by
  induction h with
  | refl => exact .refl _
  | step h =>
    cases h with
    | before U V x y z h1 h2 =>
      have := Knuth.before (A ++ U) (V ++ B) x y z h1 h2
      exact .step (by simpa using this)
    | after U V x y z h1 h2 =>
      have := Knuth.after (A ++ U) (V ++ B) x y z h1 h2
      exact .step (by simpa using this)
  | symm _ ih => exact ih.symm
  | trans _ _ i j => exact i.trans j
end
section
theorem idxFrom_split (p : Int → Bool) (l : List Int) : ∀ k : Nat, (idxFrom p l k < 0 ∧ ∀ e ∈ l, p e = false) ∨ (∃ (A : List Int) (b : Int) (B : List Int), l = A ++ b :: B ∧ (∀ e ∈ A, p e = false) ∧ p b = true ∧ idxFrom p l k = ((k + A.length : Nat) : Int)) := by
  induction l with
  | nil => intro k; exact .inl ⟨by simp [idxFrom], by simp⟩
  | cons x l ih =>
    intro k
    by_cases h : p x = true
    · refine .inr ⟨[], x, l, rfl, by simp, h, ?_⟩
      simp [idxFrom, h]
    · have hx : p x = false := by simpa using h
      rcases ih (k + 1) with ⟨h1, h2⟩ | ⟨A, b, B, h1, h2, h3, h4⟩
      · refine .inl ⟨by simpa [idxFrom, hx] using h1, ?_⟩
        intro e he
        rcases List.mem_cons.1 he with rfl | he
        · exact hx
        · exact h2 e he
      · refine .inr ⟨x :: A, b, B, by simp [h1], ?_, h3, ?_⟩
        · intro e he
          rcases List.mem_cons.1 he with rfl | he
          · exact hx
          · exact h2 e he
        · simp only [idxFrom, hx]
          rw [if_neg (by simp), h4]; simp only [List.length_cons]; omega
theorem bump_split (r : List Int) (x : Int) : (bump r x < 0 ∧ ∀ e ∈ r, e ≤ x) ∨ (∃ (A : List Int) (b : Int) (B : List Int), r = A ++ b :: B ∧ (∀ e ∈ A, e ≤ x) ∧ x < b ∧ bump r x = (A.length : Int)) := by
  rcases idxFrom_split (fun n => decide (x < n)) r 0 with ⟨h1, h2⟩ | ⟨A, b, B, h1, h2, h3, h4⟩
  · exact .inl ⟨h1, fun e he => by have := h2 e he; simpa using this⟩
  · exact .inr ⟨A, b, B, h1, fun e he => by have := h2 e he; simpa using this, by simpa using h3, by unfold bump; simpa using h4⟩
theorem ins_keep {r : List Int} {l : List (List Int)} {x : Int} (h : bump r x < 0) : insRows (r :: l) x = (r ++ [x]) :: l := by simp only [insRows]; rw [if_pos h]
theorem ins_bump {A B : List Int} {b x : Int} {l : List (List Int)} (h : bump (A ++ b :: B) x = (A.length : Int)) : insRows ((A ++ b :: B) :: l) x = (A ++ x :: B) :: insRows l b := by
  simp only [insRows]; rw [if_neg (by omega), h]; simp [rd]
/-- the word that is read from the last row to the first one -/
def readRows : List (List Int) → List Int
  | [] => []
  | r :: l => readRows l ++ r
def Sorted (r : List Int) : Prop := r.Pairwise (fun a b => a ≤ b)
theorem row_left (B : List Int) : ∀ b x : Int, x < b → Sorted (b :: B) → Eqv ((b :: B) ++ [x]) (b :: x :: B) := by
  induction B with
  | nil => intro b x _ _; exact .refl _
  | cons c B ih =>
    intro b x hx hs
    have hs' := List.pairwise_cons.1 hs
    have hbc : b ≤ c := hs'.1 c (by simp)
    have h1 := Eqv.within (ih c x (by omega) hs'.2) [b] []
    have h2 := Eqv.step (Knuth.before [] B x b c hx hbc)
    simp only [List.cons_append, List.nil_append, List.append_nil] at h1 h2 ⊢
    exact h1.trans h2.symm
theorem row_right (A : List Int) (b x : Int) (B : List Int) (hx : x < b) (hA : ∀ e ∈ A, e ≤ x) (hs : Sorted A) : Eqv (A ++ b :: x :: B) (b :: (A ++ x :: B)) := by
  induction A with
  | nil => exact .refl _
  | cons a A ih =>
    have hs' := List.pairwise_cons.1 hs
    have h1 := Eqv.within (ih (fun e he => hA e (List.mem_cons_of_mem _ he)) hs'.2) [a] []
    obtain ⟨h, t, e, ha, hb⟩ : ∃ h t, A ++ x :: B = h :: t ∧ a ≤ h ∧ h < b := by
      cases A with
      | nil => exact ⟨x, B, rfl, hA a (by simp), hx⟩
      | cons c A => exact ⟨c, A ++ x :: B, rfl, hs'.1 c (by simp), by have := hA c (by simp); omega⟩
    have h2 := Eqv.step (Knuth.after [] t a h b ha hb)
    rw [List.cons_append, List.cons_append]
    rw [e] at h1 ⊢
    simp only [List.cons_append, List.nil_append, List.append_nil] at h1 h2 ⊢
    exact h1.trans h2
theorem ins_eqv (l : List (List Int)) : ∀ x, (∀ r ∈ l, Sorted r) → Eqv (readRows l ++ [x]) (readRows (insRows l x)) := by
  induction l with
  | nil => intro x _; exact .refl _
  | cons r l ih =>
    intro x hs
    rcases bump_split r x with ⟨h1, _⟩ | ⟨A, b, B, rfl, h2, h3, h4⟩
    · rw [ins_keep h1]; simp only [readRows, List.append_assoc]; exact .refl _
    · rw [ins_bump h4]
      have hr := hs _ (List.mem_cons_self ..)
      obtain ⟨s1, s2, s3⟩ := List.pairwise_append.1 hr
      have e1 := Eqv.within (row_left B b x h3 s2) (readRows l ++ A) []
      have e2 := Eqv.within (row_right A b x B h3 h2 s1) (readRows l) []
      have e3 := Eqv.within (ih b (fun q hq => hs q (List.mem_cons_of_mem _ hq))) [] (A ++ x :: B)
      simp only [readRows, List.append_assoc, List.cons_append, List.nil_append, List.append_nil] at e1 e2 e3 ⊢
      exact (e1.trans e2).trans e3
/-- each row that follows is shorter or as long, and its numbers are greater -/
def Below2 (R S : List Int) : Prop := S.length ≤ R.length ∧ ∀ i (h : i < S.length) (h' : i < R.length), R[i] < S[i]
def Tabl : List (List Int) → Prop
  | [] => True
  | [r] => Sorted r ∧ r ≠ []
  | r :: s :: l => Sorted r ∧ r ≠ [] ∧ Below2 r s ∧ Tabl (s :: l)
theorem Tabl.tail {r : List Int} {l : List (List Int)} (h : Tabl (r :: l)) : Tabl l := by
  cases l with
  | nil => trivial
  | cons s l => exact h.2.2.2
theorem Tabl.head {r : List Int} {l : List (List Int)} (h : Tabl (r :: l)) : Sorted r ∧ r ≠ [] := by
  cases l with
  | nil => exact h
  | cons s l => exact ⟨h.1, h.2.1⟩
theorem Tabl.next {r s : List Int} {l : List (List Int)} (h : Tabl (r :: s :: l)) : Below2 r s := h.2.2.1
theorem Tabl.mk {r : List Int} {l : List (List Int)} (h1 : Sorted r) (h2 : r ≠ []) (h3 : ∀ s, l.head? = some s → Below2 r s) (h : Tabl l) : Tabl (r :: l) := by
  cases l with
  | nil => exact ⟨h1, h2⟩
  | cons s l => exact ⟨h1, h2, h3 s rfl, h⟩
theorem Tabl.rows {l : List (List Int)} (h : Tabl l) : ∀ r ∈ l, Sorted r ∧ r ≠ [] := by
  induction l with
  | nil => simp
  | cons r l ih =>
    intro q hq
    rcases List.mem_cons.1 hq with rfl | hq
    · exact h.head
    · exact ih h.tail q hq
theorem sorted_append_one {r : List Int} {x : Int} (h : Sorted r) (hx : ∀ e ∈ r, e ≤ x) : Sorted (r ++ [x]) :=
  List.pairwise_append.2 ⟨h, by simp, fun a ha b hb => by obtain rfl : b = x := by simpa using hb
                                                          exact hx a ha⟩
theorem sorted_swap {A B : List Int} {b x : Int} (h : Sorted (A ++ b :: B)) (hA : ∀ e ∈ A, e ≤ x) (hx : x < b) : Sorted (A ++ x :: B) := by
  obtain ⟨s1, s2, s3⟩ := List.pairwise_append.1 h
  obtain ⟨s4, s5⟩ := List.pairwise_cons.1 s2
  refine List.pairwise_append.2 ⟨s1, List.pairwise_cons.2 ⟨fun e he => by have := s4 e he; omega, s5⟩, fun a ha e he => ?_⟩
  rcases List.mem_cons.1 he with rfl | he
  · exact hA a ha
  · exact s3 a ha e (List.mem_cons_of_mem _ he)
/-- the row that b goes into stands below the row that it came from -/
theorem below_step {A B S : List Int} {b x : Int} {l : List (List Int)} (hx : x < b) (hA : ∀ e ∈ A, e ≤ x) (hd : ∀ s, (S :: l).head? = some s → Below2 (A ++ b :: B) s) (s : List Int) (hs : (insRows (S :: l) b).head? = some s) : Below2 (A ++ x :: B) s := by
  obtain ⟨hl, hd⟩ := hd S rfl
  rcases bump_split S b with ⟨h1, h2⟩ | ⟨C, c, D, rfl, h2, h3, h4⟩
  · rw [ins_keep h1] at hs
    obtain rfl : s = S ++ [b] := by simpa using hs.symm
    have hlen : S.length ≤ A.length := by
      rcases Nat.lt_or_ge A.length S.length with h | h
      · have := hd A.length h (by simp)
        have h5 := h2 _ (List.getElem_mem h)
        simp at this
        omega
      · exact h
    refine ⟨by simp only [List.length_append, List.length_cons, List.length_nil]; omega, fun i hi hi' => ?_⟩
    simp at hi
    rcases Nat.lt_or_ge i S.length with h | h
    · rw [List.getElem_append_left h, List.getElem_append_left (by omega)]
      have := hd i h (by simp; omega)
      rw [List.getElem_append_left (by omega)] at this
      exact this
    · have hii : i = S.length := by omega
      subst hii
      rw [show (S ++ [b])[S.length]'(by simp) = b by simp]
      rcases Nat.lt_or_ge S.length A.length with h6 | h6
      · rw [List.getElem_append_left h6]
        have := hA _ (List.getElem_mem h6)
        omega
      · rw [List.getElem_append_right h6]
        have : S.length - A.length = 0 := by omega
        simp only [this, List.getElem_cons_zero]
        exact hx
  · rw [ins_bump h4] at hs
    obtain rfl : s = C ++ b :: D := by simpa using hs.symm
    have hlen : C.length ≤ A.length := by
      rcases Nat.lt_or_ge A.length C.length with h | h
      · have := hd A.length (by simp; omega) (by simp)
        rw [List.getElem_append_left h] at this
        have h5 := h2 _ (List.getElem_mem h)
        simp at this
        omega
      · exact h
    refine ⟨by simpa using hl, fun i hi hi' => ?_⟩
    have hup : (A ++ x :: B)[i] ≤ (A ++ b :: B)[i]'(by simpa using hi') := by
      rcases Nat.lt_trichotomy i A.length with h | h | h
      · rw [List.getElem_append_left h, List.getElem_append_left h]; omega
      · subst h; simp; omega
      · rw [List.getElem_append_right (by omega), List.getElem_append_right (by omega)]
        obtain ⟨m, hm⟩ : ∃ m, i - A.length = m + 1 := ⟨i - A.length - 1, by omega⟩
        simp [hm]
    rcases Nat.lt_trichotomy i C.length with h | h | h
    · have := hd i (by simp; omega) (by simpa using hi')
      rw [List.getElem_append_left h] at this ⊢
      omega
    · subst h
      rw [show (C ++ b :: D)[C.length]'(by simp) = b by simp]
      rcases Nat.lt_or_ge C.length A.length with h6 | h6
      · rw [List.getElem_append_left h6]
        have := hA _ (List.getElem_mem h6)
        omega
      · rw [List.getElem_append_right h6]
        have : C.length - A.length = 0 := by omega
        simp only [this, List.getElem_cons_zero]
        exact hx
    · have := hd i (by simpa using hi) (by simpa using hi')
      have e : (C ++ b :: D)[i] = (C ++ c :: D)[i]'(by simpa using hi) := by
        rw [List.getElem_append_right (by omega), List.getElem_append_right (by omega)]
        obtain ⟨m, hm⟩ : ∃ m, i - C.length = m + 1 := ⟨i - C.length - 1, by omega⟩
        simp [hm]
      rw [e]; omega
theorem ins_tabl (l : List (List Int)) : ∀ x, Tabl l → Tabl (insRows l x) := by
  induction l with
  | nil => intro x _; exact ⟨by simp [Sorted], by simp⟩
  | cons r l ih =>
    intro x ht
    obtain ⟨hs, hne⟩ := ht.head
    rcases bump_split r x with ⟨h1, h2⟩ | ⟨A, b, B, rfl, h2, h3, h4⟩
    · rw [ins_keep h1]
      refine Tabl.mk (sorted_append_one hs h2) (by simp) (fun s h => ?_) ht.tail
      cases l with
      | nil => simp at h
      | cons s' l =>
        obtain rfl : s' = s := by simpa using h
        obtain ⟨g1, g2⟩ := ht.next
        refine ⟨by simp; omega, fun i hi hi' => ?_⟩
        rw [List.getElem_append_left (by omega)]
        exact g2 i hi (by omega)
    · rw [ins_bump h4]
      refine Tabl.mk (sorted_swap hs h2 h3) (by simp) (fun s h => ?_) (ih b ht.tail)
      cases l with
      | nil =>
        obtain rfl : [b] = s := by simpa [insRows] using h
        refine ⟨by simp only [List.length_append, List.length_cons, List.length_nil]; omega, fun i hi hi' => ?_⟩
        simp at hi; subst hi
        simp only [List.getElem_cons_zero]
        cases A with
        | nil => simpa using h3
        | cons a A => have := h2 a (by simp); simp; omega
      | cons s' l =>
        refine below_step h3 h2 (fun q hq => ?_) s h
        rw [List.head?_cons] at hq
        injection hq with hq
        exact hq ▸ ht.next
theorem insAll_append (w : List Int) (x : Int) : insAll (w ++ [x]) = insRows (insAll w) x := by simp [insAll]
theorem insAll_tabl (w : List Int) : Tabl (insAll w) := by
  suffices h : ∀ (w : List Int) (t : List (List Int)), Tabl t → Tabl (w.foldl insRows t) from h w [] trivial
  intro w
  induction w with
  | nil => intro t h; exact h
  | cons x w ih => intro t h; exact ih _ (ins_tabl t x h)
theorem insAll_eqv (w : List Int) : Eqv w (readRows (insAll w)) := by
  suffices h : ∀ (w : List Int) (t : List (List Int)), Tabl t → Eqv (readRows t ++ w) (readRows (w.foldl insRows t)) from h w [] trivial
  intro w
  induction w with
  | nil => intro t _; simp; exact .refl _
  | cons x w ih =>
    intro t h
    have h1 := Eqv.within (ins_eqv t x (fun r hr => (h.rows r hr).1)) [] w
    have h2 := ih _ (ins_tabl t x h)
    simp only [List.nil_append, List.append_assoc] at h1
    exact h1.trans h2
end
section
/-- the first column, read upwards -/
def colOf : List (List Int) → List Int
  | [] => []
  | r :: l => colOf l ++ r.take 1
def Tab0 : List (List Int) → Prop
  | [] => True
  | [r] => Sorted r
  | r :: s :: l => Sorted r ∧ Below2 r s ∧ Tab0 (s :: l)
theorem Tabl.weak : ∀ {l : List (List Int)}, Tabl l → Tab0 l
  | [], _ => trivial
  | [_], h => h.1
  | _ :: _ :: _, h => ⟨h.1, h.2.2.1, Tabl.weak h.2.2.2⟩
theorem Tab0.tail {r : List Int} {l : List (List Int)} (h : Tab0 (r :: l)) : Tab0 l := by
  cases l with
  | nil => trivial
  | cons s l => exact h.2.2
theorem Tab0.head {r : List Int} {l : List (List Int)} (h : Tab0 (r :: l)) : Sorted r := by
  cases l with
  | nil => exact h
  | cons s l => exact h.1
theorem Tab0.rows {l : List (List Int)} (h : Tab0 l) : ∀ r ∈ l, Sorted r := by
  induction l with
  | nil => simp
  | cons r l ih =>
    intro q hq
    rcases List.mem_cons.1 hq with rfl | hq
    · exact h.head
    · exact ih h.tail q hq
theorem Tab0.above {l : List (List Int)} : ∀ {r : List Int}, Tab0 (r :: l) → ∀ e ∈ colOf l, ∃ a, r.head? = some a ∧ a < e := by
  induction l with
  | nil => intro r _ e he; simp [colOf] at he
  | cons s l ih =>
    intro r h e he
    obtain ⟨g1, g2⟩ := h.2.1
    have first : ∀ b, s.head? = some b → ∃ a, r.head? = some a ∧ a < b := by
      intro b hb
      cases s with
      | nil => simp at hb
      | cons b' s =>
        obtain rfl : b' = b := by simpa using hb
        cases r with
        | nil => simp at g1
        | cons a r => exact ⟨a, rfl, g2 0 (by simp) (by simp)⟩
    rcases List.mem_append.1 he with he | he
    · obtain ⟨b, hb, hbe⟩ := ih h.2.2 e he
      obtain ⟨a, ha, hab⟩ := first b hb
      exact ⟨a, ha, by omega⟩
    · cases s with
      | nil => simp at he
      | cons b s =>
        obtain rfl : e = b := by simpa using he
        exact first e rfl
theorem col_falls {l : List (List Int)} (h : Tab0 l) : (colOf l).Pairwise (fun a b => b < a) := by
  induction l with
  | nil => simp [colOf]
  | cons r l ih =>
    refine List.pairwise_append.2 ⟨ih h.tail, ?_, fun e he a ha => ?_⟩
    · cases r <;> simp
    · obtain ⟨b, hb, hbe⟩ := h.above e he
      cases r with
      | nil => simp at ha
      | cons c r =>
        obtain rfl : a = c := by simpa using ha
        obtain rfl : a = b := by simpa using hb
        exact hbe
theorem Tab0.tails : ∀ {l : List (List Int)}, Tab0 l → Tab0 (l.map List.tail)
  | [], _ => trivial
  | [r], h => h.sublist (List.tail_sublist r)
  | r :: s :: l, h => by
    refine ⟨h.1.sublist (List.tail_sublist r), ⟨?_, fun i hi hi' => ?_⟩, Tab0.tails (l := s :: l) h.2.2⟩
    · have := h.2.1.1
      simp only [List.length_tail]; omega
    · simp only [List.length_tail] at hi hi'
      rw [List.getElem_tail, List.getElem_tail]
      exact h.2.1.2 (i + 1) (by omega) (by omega)
theorem read_split : ∀ (l : List (List Int)) (X : List Int), X.Sublist (readRows l) → ∃ C X' : List Int, C.Sublist X ∧ C.Sublist (colOf l) ∧ X'.Sublist X ∧ X'.Sublist (readRows (l.map List.tail)) ∧ X.length = C.length + X'.length
  | [], X, h => by
    obtain rfl : X = [] := by simpa [readRows] using h
    exact ⟨[], [], by simp, by simp, by simp, by simp, rfl⟩
  | r :: l, X, h => by
    obtain ⟨X1, X2, rfl, h1, h2⟩ := List.sublist_append_iff.1 h
    obtain ⟨C, Y, c1, c2, c3, c4, c5⟩ := read_split l X1 h1
    have plain : X2.Sublist r.tail → ∃ C X' : List Int, C.Sublist (X1 ++ X2) ∧ C.Sublist (colOf (r :: l)) ∧ X'.Sublist (X1 ++ X2) ∧ X'.Sublist (readRows ((r :: l).map List.tail)) ∧ (X1 ++ X2).length = C.length + X'.length := fun h3 =>
      ⟨C, Y ++ X2, c1.trans (List.sublist_append_left ..), c2.trans (List.sublist_append_left ..), c3.append (List.Sublist.refl _), c4.append h3, by simp only [List.length_append]; omega⟩
    cases r with
    | nil => exact plain (by simpa using h2)
    | cons a r =>
      cases h2 with
      | cons _ h3 => exact plain h3
      | cons_cons _ h3 =>
        rename_i t
        refine ⟨C ++ [a], Y ++ t, c1.append (by simp), c2.append (by simp), c3.append (by simp), c4.append h3, by simp only [List.length_append, List.length_cons, List.length_nil]; omega⟩
/-- the numbers in the first k rows -/
def firstRows (k : Nat) (l : List (List Int)) : Nat := ((l.take k).map List.length).sum
/-- the numbers in the first k columns -/
def firstCols (k : Nat) (l : List (List Int)) : Nat := (l.map fun r => min k r.length).sum
theorem firstRows_tails : ∀ (k : Nat) (l : List (List Int)), firstRows k (l.map List.tail) ≤ firstRows k l
  | 0, _ => by simp [firstRows]
  | _ + 1, [] => by simp [firstRows]
  | k + 1, r :: l => by
    have := firstRows_tails k l
    simp only [firstRows, List.map_cons, List.take_succ_cons, List.sum_cons, List.length_tail] at this ⊢
    omega
theorem firstRows_col : ∀ (k : Nat) (l : List (List Int)), Tab0 l → min k (colOf l).length + firstRows k (l.map List.tail) ≤ firstRows k l
  | 0, _, _ => by simp [firstRows]
  | _ + 1, [], _ => by simp [firstRows, colOf]
  | k + 1, r :: l, h => by
    cases r with
    | nil =>
      have h0 : colOf l = [] := by
        cases hc : colOf l with
        | nil => rfl
        | cons e t =>
          obtain ⟨a, ha, _⟩ := h.above e (by rw [hc]; simp)
          simp at ha
      have h1 := firstRows_tails (k + 1) ([] :: l)
      simp only [colOf, h0, List.take_nil, List.append_nil, List.length_nil]
      omega
    | cons a r =>
      have := firstRows_col k l h.tail
      simp only [firstRows, List.map_cons, List.take_succ_cons, List.sum_cons, List.length_tail, List.length_cons, colOf, List.take_zero, List.length_append, List.length_nil] at this ⊢
      omega
theorem rises_le : ∀ (n : Nat) (l : List (List Int)), (∀ r ∈ l, r.length ≤ n) → Tab0 l → ∀ (X : List Int) (k : Nat), X.Sublist (readRows l) → Short (fun a b => b < a) k X → X.length ≤ firstRows k l
  | 0, l, hn, ht, X, k, hX, _ => by
    have : readRows l = [] := by
      clear hX ht
      induction l with
      | nil => rfl
      | cons r l ih =>
        have h1 := hn r (by simp)
        obtain rfl : r = [] := List.length_eq_zero_iff.1 (by omega)
        simp only [readRows, List.append_nil]
        exact ih (fun r hr => hn r (List.mem_cons_of_mem _ hr))
    rw [this] at hX
    obtain rfl : X = [] := by simpa using hX
    simp
  | n + 1, l, hn, ht, X, k, hX, hS => by
    obtain ⟨C, Y, c1, c2, c3, c4, c5⟩ := read_split l X hX
    have h1 := hS C c1 ((col_falls ht).sublist c2)
    have h2 := c2.length_le
    have h3 := rises_le n (l.map List.tail) (fun r hr => by
      obtain ⟨q, hq, rfl⟩ := List.mem_map.1 hr
      have := hn q hq
      simp only [List.length_tail]; omega) ht.tails Y k c4 (hS.sub c3)
    have h4 := firstRows_col k l ht
    omega
theorem chain_rows : ∀ (l : List (List Int)), (∀ r ∈ l, Sorted r) → ∀ c : List Int, c.Sublist (readRows l) → c.Pairwise (fun a b => b < a) → c.length ≤ l.length
  | [], _, c, hc, _ => by
    obtain rfl : c = [] := by simpa [readRows] using hc
    simp
  | r :: l, hs, c, hc, hp => by
    obtain ⟨a, b, rfl, ha, hb⟩ := List.sublist_append_iff.1 hc
    obtain ⟨p1, p2, _⟩ := List.pairwise_append.1 hp
    have h1 := chain_rows l (fun r hr => hs r (List.mem_cons_of_mem _ hr)) a ha p1
    have h2 : b.length ≤ 1 := by
      have hs2 := (hs r (by simp)).sublist hb
      match b, p2, hs2 with
      | [], _, _ => simp
      | [_], _, _ => simp
      | x :: y :: _, p, s =>
        have h3 := (List.pairwise_cons.1 p).1 y (by simp)
        have h4 := (List.pairwise_cons.1 s).1 y (by simp)
        omega
    simp only [List.length_append, List.length_cons]; omega
theorem read_append : ∀ a b : List (List Int), readRows (a ++ b) = readRows b ++ readRows a
  | [], b => by simp [readRows]
  | r :: a, b => by simp only [List.cons_append, readRows, read_append a b, List.append_assoc]
theorem read_length : ∀ l : List (List Int), (readRows l).length = (l.map List.length).sum
  | [] => rfl
  | r :: l => by simp only [readRows, List.length_append, read_length l, List.map_cons, List.sum_cons]; omega
theorem rises_ge (l : List (List Int)) (hs : ∀ r ∈ l, Sorted r) (k : Nat) : Fit (fun a b => b < a) k (firstRows k l) (readRows l) := by
  refine ⟨readRows (l.take k), ?_, read_length _, fun c hc hp => ?_⟩
  · have := read_append (l.take k) (l.drop k)
    rw [List.take_append_drop] at this
    rw [this]
    exact List.sublist_append_right ..
  · have := chain_rows (l.take k) (fun r hr => hs r (List.mem_of_mem_take hr)) c hc hp
    have h2 : (l.take k).length ≤ k := by rw [List.length_take]; omega
    omega
theorem falls_le : ∀ (l : List (List Int)), (∀ r ∈ l, Sorted r) → ∀ (X : List Int) (k : Nat), X.Sublist (readRows l) → Short (fun a b => a ≤ b) k X → X.length ≤ firstCols k l
  | [], _, X, k, hX, _ => by
    obtain rfl : X = [] := by simpa [readRows] using hX
    simp
  | r :: l, hs, X, k, hX, hS => by
    obtain ⟨a, b, rfl, ha, hb⟩ := List.sublist_append_iff.1 hX
    have h1 := falls_le l (fun r hr => hs r (List.mem_cons_of_mem _ hr)) a k ha (hS.sub (List.sublist_append_left ..))
    have h2 := hS b (List.sublist_append_right ..) ((hs r (by simp)).sublist hb)
    have h3 := hb.length_le
    simp only [firstCols, List.map_cons, List.sum_cons, List.length_append] at h1 ⊢
    omega
theorem cols_chain : ∀ (k : Nat) (l : List (List Int)), Tab0 l → ∀ c : List Int, c.Sublist (readRows (l.map (List.take k))) → c.Pairwise (fun a b => a ≤ b) → c.length ≤ k
  | 0, l, _, c, hc, _ => by
    have : readRows (l.map (List.take 0)) = [] := by
      clear hc
      induction l with
      | nil => rfl
      | cons r l ih => rename_i h; simp only [List.map_cons, readRows, List.take_zero, List.append_nil]; exact ih h.tail
    rw [this] at hc
    obtain rfl : c = [] := by simpa using hc
    simp
  | k + 1, l, h, c, hc, hp => by
    obtain ⟨C, Y, c1, c2, c3, c4, c5⟩ := read_split _ c hc
    have e1 : colOf (l.map (List.take (k + 1))) = colOf l := by
      clear hc h c1 c2 c3 c4
      induction l with
      | nil => rfl
      | cons r l ih => simp only [List.map_cons, colOf, ih, List.take_take]; rw [Nat.min_eq_left (by omega)]
    have e2 : (l.map (List.take (k + 1))).map List.tail = (l.map List.tail).map (List.take k) := by
      simp only [List.map_map]
      congr 1
      funext r
      cases r <;> simp
    rw [e1] at c2
    rw [e2] at c4
    have h1 := cols_chain k (l.map List.tail) h.tails Y c4 (hp.sublist c3)
    have h2 : C.length ≤ 1 := by
      have p1 := hp.sublist c1
      have p2 := (col_falls h).sublist c2
      match C, p1, p2 with
      | [], _, _ => simp
      | [_], _, _ => simp
      | x :: y :: _, p, s =>
        have h3 := (List.pairwise_cons.1 p).1 y (by simp)
        have h4 := (List.pairwise_cons.1 s).1 y (by simp)
        omega
    omega
theorem falls_ge (l : List (List Int)) (h : Tab0 l) (k : Nat) : Fit (fun a b => a ≤ b) k (firstCols k l) (readRows l) := by
  refine ⟨readRows (l.map (List.take k)), ?_, ?_, fun c hc hp => cols_chain k l h c hc hp⟩
  · clear h
    induction l with
    | nil => exact List.Sublist.refl _
    | cons r l ih => exact ih.append (List.take_sublist ..)
  · rw [read_length, firstCols, List.map_map]
    congr 2
    funext r
    simp
/-- Greene's theorem: the most numbers with no fall longer than k are those in the first k rows. -/
theorem greene_rise (w : List Int) (k : Nat) : Fit (fun a b => b < a) k (firstRows k (insAll w)) w ∧ ∀ n, Fit (fun a b => b < a) k n w → n ≤ firstRows k (insAll w) := by
  have ht := (insAll_tabl w).weak
  refine ⟨(fit_eqv (insAll_eqv w) k _).1.2 (rises_ge _ ht.rows k), fun n hn => ?_⟩
  obtain ⟨X, h1, rfl, h3⟩ := (fit_eqv (insAll_eqv w) k n).1.1 hn
  refine rises_le ((insAll w).map List.length).sum _ (fun r hr => ?_) ht X k h1 h3
  have : ∀ (l : List (List Int)), r ∈ l → r.length ≤ (l.map List.length).sum := by
    intro l
    induction l with
    | nil => simp
    | cons q l ih =>
      intro h
      simp only [List.map_cons, List.sum_cons]
      rcases List.mem_cons.1 h with rfl | h
      · omega
      · have := ih h; omega
  exact this _ hr
/-- The most numbers with no rise longer than k are those in the first k columns. -/
theorem greene_fall (w : List Int) (k : Nat) : Fit (fun a b => a ≤ b) k (firstCols k (insAll w)) w ∧ ∀ n, Fit (fun a b => a ≤ b) k n w → n ≤ firstCols k (insAll w) := by
  have ht := (insAll_tabl w).weak
  refine ⟨(fit_eqv (insAll_eqv w) k _).2.2 (falls_ge _ ht k), fun n hn => ?_⟩
  obtain ⟨X, h1, rfl, h3⟩ := (fit_eqv (insAll_eqv w) k n).2.1 hn
  exact falls_le _ ht.rows X k h1 h3
end
end Go.Proofs.Ytfijlemaiiobaaa.Q
