/- What an argument of the law's is where it reads as data: a slice of whole numbers, a slice of such slices; conditions: the types' own. -/
import Derived.Test.YtaghidcmefbjdaaDoorF0
import Derived.Test.YtaghidcmefbjdaaDoorQBase
import Derived.Deep.Matrix
import Derived.Lib.SmallJoins
import Derived.ProofKit
import Derived.OpenShut
import Derived.ChangeSlices
set_option linter.unusedVariables false
set_option linter.unusedSimpArgs false
namespace Go.Proofs.YtaghidcmefbjdaaDoor.Q
open Go.RowKit Go.Proofs.YtaghidcmefbjdaaDoor.F Go.Proofs.YtaghidcmefbjdaaDoorW.PrintWords Go.Proofs.YtaghidcmefbjdaaDoorW.PrintLast Go.Proofs.YtaghidcmefbjdaaDoorW.PrintMore
section
open Go.ChangeShapes Go.WideShapes
variable {H : Type} {enc : TypeId × Value → H} {P : Program} {W : World}
theorem open_ints_C {t e : TypeId} {k : IntKind} {fuel : Nat} {v : Value} {x : DataW H × List MemPlace} (ht : P.underlying t = some (.slice e)) (he : P.underlying e = some (.int k)) (hc : P.cellsOf e = 1)
    (h : DataW.trod enc P W 0 (fun _ => true) true fuel t [v] = some x) :
    ∃ (a : Option Addr) (l : List Int) (cap : Nat), v = .slice a l.length cap ∧ l.length ≤ cap ∧ l.length ≤ maxLen ∧ (Kd.int k).C W a l.length l ∧ ∀ n ∈ l, (Lit.int k n).wf = true := by
  rcases open_ints ht he hc h with ⟨hcs, _⟩ | ⟨a, len, cap, zs, hcs, _, hl, hm, hz, _, hcell, hw⟩
  · obtain rfl : v = .slice none 0 0 := by simpa using hcs
    exact ⟨none, [], 0, rfl, Nat.le_refl _, Nat.zero_le _, Kd.C_nil _ _, by simp⟩
  · obtain rfl : v = .slice (some a) len cap := by simpa using hcs
    simp only [if_true] at hz
    have hlen : (zs.take len).length = len := by rw [List.length_take, hz]; omega
    refine ⟨some a, zs.take len, cap, by rw [hlen], by rw [hlen]; exact hl, by rw [hlen]; omega, ⟨rfl, by rw [hlen]; unfold maxLen at hm; omega, fun _ => ⟨a, rfl, fun j p hj => ?_⟩⟩, fun n hn => hw n (List.mem_of_mem_take hn)⟩
    have hjl : j < len := by have := (List.getElem?_eq_some_iff.1 hj).1; omega
    refine ⟨[.int k p], rfl, rfl, fun i u hu => ?_⟩
    cases i with
    | zero =>
      obtain rfl : Value.int k p = u := by simpa using hu
      have := hcell j (by omega)
      rw [show j * (Kd.int k).sz + 0 = j from by show j * 1 + 0 = j; omega, this]
      rw [List.getElem?_take, if_pos hjl] at hj
      rw [List.getD_eq_getElem?_getD, hj]; rfl
    | succ i => simp at hu
theorem open_rows_C {t e q : TypeId} {k : IntKind} {fuel : Nat} {v : Value} {x : DataW H × List MemPlace} (ht : P.underlying t = some (.slice e)) (he : P.underlying e = some (.slice q)) (hq : P.underlying q = some (.int k))
    (ce : P.cellsOf e = 1) (cq : P.cellsOf q = 1) (h : DataW.trod enc P W 0 (fun _ => true) true fuel t [v] = some x) :
    ∃ (a : Option Addr) (l : List (List Int)) (cap : Nat), v = .slice a l.length cap ∧ l.length ≤ cap ∧ l.length ≤ maxLen ∧ (Kd.slice q (Kd.int k)).C W a l.length l ∧ (∀ r ∈ l, r.length ≤ maxLen) ∧ ∀ r ∈ l, ∀ n ∈ r, (Lit.int k n).wf = true := by
  rcases Go.Deep.open_int_rows ht he hq ce cq h with ⟨hcs, _⟩ | ⟨a, len, cap, A, L, C, Z, hcs, _, hl, hm, _, hrow⟩
  · obtain rfl : v = .slice none 0 0 := by simpa using hcs
    exact ⟨none, [], 0, rfl, Nat.le_refl _, Nat.zero_le _, Kd.C_nil _ _, by simp, by simp⟩
  · obtain rfl : v = .slice (some a) len cap := by simpa using hcs
    have hlen : ((List.range len).map fun r => (Z r).take (L r)).length = len := by simp
    have hel : ∀ r, r < len → ((Z r).take (L r)).length = L r := by
      intro r hr
      obtain ⟨_, h1, _, h3, _⟩ := hrow r (by omega)
      rw [List.length_take, h3]; omega
    refine ⟨some a, (List.range len).map fun r => (Z r).take (L r), cap, by rw [hlen], by rw [hlen]; exact hl, by rw [hlen]; omega, ⟨rfl, by rw [hlen]; unfold maxLen at hm; omega, fun _ => ⟨a, rfl, fun j p hj => ?_⟩⟩, ?_, ?_⟩
    · have hjl : j < len := by have := (List.getElem?_eq_some_iff.1 hj).1; omega
      have hp : (Z j).take (L j) = p := by
        rw [List.getElem?_map, List.getElem?_range hjl] at hj
        simpa using hj
      subst hp
      obtain ⟨h0, h1, h2, h3, h4, h5, h6⟩ := hrow j (by omega)
      have hL := hel j hjl
      refine ⟨[.slice (A j) (L j) (C j)], rfl, ⟨A j, C j, by rw [hL], by rw [hL]; exact h1, rfl, by rw [hL]; unfold maxLen at h2; omega, fun hpos => ?_⟩, fun i u hu => ?_⟩
      · rw [hL] at hpos
        cases hA : A j with
        | none => have := h5 hA; omega
        | some a' =>
          refine ⟨a', rfl, fun c y hc => ?_⟩
          have hcl : c < L j := by have := (List.getElem?_eq_some_iff.1 hc).1; omega
          refine ⟨[.int k y], rfl, rfl, fun i u hu => ?_⟩
          cases i with
          | zero =>
            obtain rfl : Value.int k y = u := by simpa using hu
            rw [show c * (Kd.int k).sz + 0 = c from by show c * 1 + 0 = c; omega, (h6 a' hA).2 c (by omega)]
            rw [List.getElem?_take, if_pos hcl] at hc
            rw [List.getD_eq_getElem?_getD, hc]; rfl
          | succ i => simp at hu
      · cases i with
        | zero =>
          obtain rfl : Value.slice (A j) (L j) (C j) = u := by simpa using hu
          rw [show j * (Kd.slice q (Kd.int k)).sz + 0 = j from by show j * 1 + 0 = j; omega]
          exact h0
        | succ i => simp at hu
    · intro r hr
      obtain ⟨j, hj, rfl⟩ := List.mem_map.1 hr
      have hjl := List.mem_range.1 hj
      obtain ⟨_, h1, h2, _⟩ := hrow j (by omega)
      rw [hel j hjl]; omega
    · intro r hr n hn
      obtain ⟨j, hj, rfl⟩ := List.mem_map.1 hr
      have hjl := List.mem_range.1 hj
      obtain ⟨_, _, _, _, h4, _⟩ := hrow j (by omega)
      exact h4 n (List.mem_of_mem_take hn)
end
end Go.Proofs.YtaghidcmefbjdaaDoor.Q
