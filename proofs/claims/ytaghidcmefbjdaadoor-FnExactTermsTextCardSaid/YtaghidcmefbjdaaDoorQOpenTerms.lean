/- What an argument that is a list of terms is where it reads as data; conditions: the types' own. -/
import Derived.Test.YtaghidcmefbjdaaDoorF0
import Derived.Test.YtaghidcmefbjdaaDoorQBase
import Derived.Test.YtaghidcmefbjdaaDoorQOpen
import Derived.Deep.SlicePairs
set_option linter.unusedVariables false
set_option linter.unusedSimpArgs false
namespace Go.Proofs.YtaghidcmefbjdaaDoor.Q
open Go.RowKit Go.Proofs.YtaghidcmefbjdaaDoor.F Go.Proofs.YtaghidcmefbjdaaDoorW.PrintWords Go.Proofs.YtaghidcmefbjdaaDoorW.PrintLast Go.Proofs.YtaghidcmefbjdaaDoorW.PrintMore
section
open Go.ChangeShapes Go.WideShapes
variable {H : Type} {enc : TypeId × Value → H} {P : Program} {W : World}
theorem open_terms_C {t e : TypeId} {f0 f1 : Field} {fuel : Nat} {v : Value} {x : DataW H × List MemPlace} (ht : P.underlying t = some (.slice e)) (he : P.underlying e = some (.struct #[f0, f1]))
    (ce : P.cellsOf e = 2) (o0 : f0.offset = 0) (o1 : f1.offset = 1) (c0 : P.cellsOf f0.type = 1) (c1 : P.cellsOf f1.type = 1) {q : TypeId} (hf0 : P.underlying f0.type = some (.slice q)) (hq : P.underlying q = some (.int .i64)) (cq : P.cellsOf q = 1) (hf1 : P.underlying f1.type = some (.int .i64))
    (h : DataW.trod enc P W 0 (fun _ => true) true fuel t [v] = some x) :
    ∃ (a : Option Addr) (l : List S32) (cap : Nat), v = .slice a l.length cap ∧ l.length ≤ cap ∧ l.length ≤ maxLen ∧ k32.C W a l.length l ∧ ∀ x ∈ l, x.f0.length ≤ maxLen ∧ (Lit.int .i64 x.f1).wf = true := by
  rcases Go.Deep.open_slice_pairs ht he ce o0 o1 c0 c1 h with ⟨hcs, _⟩ | ⟨a, len, cap, m, n, V0, V1, D0, D1, P0, P1, hcs, _, hl, hm, hmm, _, hrow⟩
  · obtain rfl : v = .slice none 0 0 := by simpa using hcs
    exact ⟨none, [], 0, rfl, Nat.le_refl _, Nat.zero_le _, Kd.C_nil _ _, by simp⟩
  · obtain rfl : v = .slice (some a) len cap := by simpa using hcs
    simp only [if_true] at hmm
    subst hmm
    have each : ∀ i, i < len → ∃ y : List Int × Int × Option Addr × Nat, V0 i = .slice y.2.2.1 y.1.length y.2.2.2 ∧ y.1.length ≤ y.2.2.2 ∧ y.1.length ≤ maxLen ∧ (Kd.int .i64).C W y.2.2.1 y.1.length y.1 ∧ V1 i = .int .i64 y.2.1 ∧ (Lit.int .i64 y.2.1).wf = true := by
      intro i hi
      obtain ⟨_, _, h2, h3⟩ := hrow i (by omega)
      obtain ⟨A, l, c, e1, e2, e3, e4, _⟩ := open_ints_C hf0 hq cq h2
      obtain ⟨z, e5, _, e6⟩ := DataW.trod_int hf1 h3
      have e5 : V1 i = .int .i64 z := by simpa using e5
      exact ⟨(l, z, A, c), e1, e2, e3, e4, e5, e6⟩
    obtain ⟨y, hy⟩ := Go.Deep.choose_lt each
    refine ⟨some a, (List.range len).map fun i => ⟨(y i).1, (y i).2.1⟩, m, by simp, by simpa using hl, by simp; omega, ⟨rfl, by simp; unfold maxLen at hm; omega, fun _ => ⟨a, rfl, fun j p hj => ?_⟩⟩, fun p hp => ?_⟩
    · have hjl : j < len := by have := (List.getElem?_eq_some_iff.1 hj).1; simpa using this
      obtain rfl : (⟨(y j).1, (y j).2.1⟩ : S32) = p := by
        rw [List.getElem?_map, List.getElem?_range hjl] at hj
        simpa using hj
      obtain ⟨e1, e2, e3, e4, e5, e6⟩ := hy j hjl
      obtain ⟨g0, g1, _, _⟩ := hrow j (by omega)
      refine ⟨_, rfl, k32_mk W ⟨(y j).1, (y j).2.1⟩ (A0 := (y j).2.2.1) (c0 := (y j).2.2.2) e2 e4, fun i u hu => ?_⟩
      match i, hu with
      | 0, hu =>
        obtain rfl : Value.slice (y j).2.2.1 (y j).1.length (y j).2.2.2 = u := by simpa using hu
        rw [← e1]; exact g0
      | 1, hu =>
        obtain rfl : Value.int .i64 (y j).2.1 = u := by simpa using hu
        rw [← e5]; exact g1
    · obtain ⟨j, hj, rfl⟩ := List.mem_map.1 hp
      obtain ⟨_, _, e3, _, _, e6⟩ := hy j (List.mem_range.1 hj)
      exact ⟨e3, e6⟩
end
end Go.Proofs.YtaghidcmefbjdaaDoor.Q
