/- Inserting by columns keeps the rows weakly rising and the numbers above nought; no condition. -/
import Derived.Test.YtfijlemaiiobaaaF0
import Derived.Test.YtfijlemaiiobaaaF4
import Derived.Test.YtfijlemaiiobaaaQBase
import Derived.Test.YtfijlemaiiobaaaQRows
import Derived.Test.YtfijlemaiiobaaaQCols
set_option linter.unusedVariables false
set_option linter.unusedSimpArgs false
namespace Go.Proofs.Ytfijlemaiiobaaa.Q
open Go.RowKit Go.Proofs.Ytfijlemaiiobaaa.F Go.Proofs.YtfijlemaiiobaaaW.PrintWords Go.Proofs.YtfijlemaiiobaaaW.PrintLast Go.Proofs.YtfijlemaiiobaaaW.PrintMore
theorem insCols_pos : ∀ (C : List (List Int)) (x : Int), 1 ≤ x → (∀ e ∈ C, ∀ v ∈ e, 1 ≤ v) → ∀ e ∈ insCols C x, ∀ v ∈ e, 1 ≤ v
  | [], x, hx, _ => fun e he v hv => by
    obtain rfl : e = [x] := by simpa [insCols] using he
    obtain rfl := List.mem_singleton.1 hv
    exact hx
  | r :: l, x, hx, h => fun e he v hv => by
    rw [insCols] at he
    rcases bumpC_split r x with ⟨hb, _⟩ | ⟨q, hq, hb, hle, _⟩
    · rw [if_pos hb] at he
      rcases List.mem_cons.1 he with g | g
      · subst g
        rcases List.mem_append.1 hv with hv | hv
        · exact h r (by simp) v hv
        · obtain rfl := List.mem_singleton.1 hv; exact hx
      · exact h e (by simp [g]) v hv
    · rw [if_neg (by omega)] at he
      rcases List.mem_cons.1 he with g | g
      · subst g
        rcases List.mem_or_eq_of_mem_set hv with hv | rfl
        · exact h r (by simp) v hv
        · exact hx
      · exact insCols_pos l _ (by rw [hb]; omega) (fun c hc => h c (by simp [hc])) e g v hv
/-- the column x goes into, beside the one that takes what is bumped -/
theorem ins_beside (e : List Int) (E : List (List Int)) (x : Int) (q : Nat) (hpos : ∀ v ∈ e, 1 ≤ v) (hx : 1 ≤ x) (hq : q < e.length) (hle : x ≤ rd e (q : Int)) (hlow : ∀ s : Nat, s < q → rd e (s : Int) < x) (hinc : RowInc (e :: E)) :
    ∀ c C', insCols E (rd e (q : Int)) = c :: C' → ∀ k : Nat, k < c.length → rd (e.set q x) (k : Int) ≤ rd c (k : Int) := by
  intro c C' hc k hk
  have hold : ∀ k : Nat, rd (e.set q x) (k : Int) ≤ rd e (k : Int) := fun k => by
    rw [rd_set e q k x hq]
    split
    · rename_i h; subst h; exact hle
    · exact Int.le_refl _
  have hat : ∀ k : Nat, k ≤ q → rd (e.set q x) (k : Int) ≤ rd e (q : Int) := fun k hk => by
    rw [rd_set e q k x hq]
    split
    · exact hle
    · have := hlow k (by omega); omega
  cases E with
  | nil =>
    simp only [insCols, List.cons.injEq] at hc
    obtain ⟨rfl, _⟩ := hc
    have hk0 : k = 0 := by simpa using hk
    subst hk0
    exact hat 0 (Nat.zero_le _)
  | cons e2 E2 =>
    have h2 := hinc.1
    rw [insCols] at hc
    rcases bumpC_split e2 (rd e (q : Int)) with ⟨hb, hall⟩ | ⟨q2, hq2, hb, hle2, hlow2⟩
    · rw [if_pos hb] at hc
      obtain ⟨rfl, _⟩ := List.cons.inj hc
      have hlen : e2.length ≤ q := by
        rcases Nat.lt_or_ge q e2.length with h | h
        · have h3 := h2 q h
          have h4 := hall _ (rd_mem e2 q h)
          omega
        · exact h
      rw [List.length_append, List.length_singleton] at hk
      by_cases hk2 : k < e2.length
      · have h3 := h2 k hk2
        have h4 := hold k
        have h5 : rd (e2 ++ [rd e (q : Int)]) (k : Int) = rd e2 (k : Int) := by rw [rd_nat (e2 ++ [rd e (q : Int)]), rd_nat e2, List.getD_eq_getElem?_getD, List.getD_eq_getElem?_getD, List.getElem?_append_left hk2]
        omega
      · have hke : k = e2.length := by omega
        subst hke
        have h5 : rd (e2 ++ [rd e (q : Int)]) (e2.length : Int) = rd e (q : Int) := by rw [rd_nat (e2 ++ [rd e (q : Int)]), List.getD_eq_getElem?_getD, List.getElem?_append_right (Nat.le_refl _), Nat.sub_self]; rfl
        rw [h5]
        exact hat _ hlen
    · rw [if_neg (by omega)] at hc
      obtain ⟨rfl, _⟩ := List.cons.inj hc
      rw [List.length_set] at hk
      rw [hb, Int.toNat_natCast, rd_set e2 q2 k _ hq2]
      split
      · rename_i he
        subst he
        refine hat q2 ?_
        rcases Nat.lt_or_ge q q2 with h | h
        · have h3 := h2 q (by omega)
          have h4 := hlow2 q h
          omega
        · exact h
      · have h3 := h2 k hk
        have h4 := hold k
        omega
theorem rowInc_cons {e : List Int} {E : List (List Int)} (h : ∀ c C', E = c :: C' → ∀ k : Nat, k < c.length → rd e (k : Int) ≤ rd c (k : Int)) (hE : RowInc E) : RowInc (e :: E) := by
  cases E with
  | nil => trivial
  | cons c C' => exact ⟨h c C' rfl, hE⟩
theorem rowInc_tail {e : List Int} {E : List (List Int)} (h : RowInc (e :: E)) : RowInc E := by
  cases E with
  | nil => trivial
  | cons c C' => exact h.2
theorem insCols_inc : ∀ (C : List (List Int)) (x : Int), 1 ≤ x → (∀ e ∈ C, ∀ v ∈ e, 1 ≤ v) → Desc C → RowInc C → RowInc (insCols C x)
  | [], x, _, _, _, _ => trivial
  | e :: E, x, hx, hp, hd, hinc => by
    rw [insCols]
    rcases bumpC_split e x with ⟨hb, _⟩ | ⟨q, hq, hb, hle, hlow⟩
    · rw [if_pos hb]
      refine rowInc_cons (fun c C' hc k hk => ?_) (rowInc_tail hinc)
      subst hc
      have hl : c.length ≤ e.length := (List.pairwise_cons.1 hd).1 c (by simp)
      have := hinc.1 k hk
      rw [rd_nat (e ++ [x]), List.getD_eq_getElem?_getD, List.getElem?_append_left (by omega), ← List.getD_eq_getElem?_getD, ← rd_nat]
      exact this
    · rw [if_neg (by omega), hb, Int.toNat_natCast]
      have hy : 1 ≤ rd e (q : Int) := hp e (by simp) _ (rd_mem e q hq)
      exact rowInc_cons (ins_beside e E x q (hp e (by simp)) hx hq hle hlow hinc) (insCols_inc E _ hy (fun c hc => hp c (by simp [hc])) (List.pairwise_cons.1 hd).2 (rowInc_tail hinc))
end Go.Proofs.Ytfijlemaiiobaaa.Q
