/- What the law's helpers on tableaux return; condition: at most 2^20 elements in all. -/
import Derived.Test.YtljjjdgnpnnmoaaF0
import Derived.Test.YtljjjdgnpnnmoaaF1
import Derived.Test.YtljjjdgnpnnmoaaF2
import Derived.Test.YtljjjdgnpnnmoaaQBase
import Derived.Test.YtljjjdgnpnnmoaaQLawInts
import Derived.Test.YtljjjdgnpnnmoaaQLawRows
import Derived.Test.YtljjjdgnpnnmoaaQRows
set_option linter.unusedVariables false
set_option linter.unusedSimpArgs false
namespace Go.Proofs.Ytljjjdgnpnnmoaa.Q
open Go.RowKit Go.Proofs.Ytljjjdgnpnnmoaa.F Go.Proofs.YtljjjdgnpnnmoaaW.PrintWords Go.Proofs.YtljjjdgnpnnmoaaW.PrintLast Go.Proofs.YtljjjdgnpnnmoaaW.PrintMore
theorem szTableau_ev (n : List Int) (m : List (List Int)) (hn : n.length ≤ maxLen) (hm : m.length ≤ maxLen) (hr : ∀ r ∈ m, r.length ≤ maxLen) :
    ∃ z, Ev (fun k => laws_szTableau.f k n m 1048576) z ∧ (z < 0 ∨ (n.length ≤ 1048576 ∧ m.length ≤ 1048576 ∧ (∀ r ∈ m, r.length ≤ 1048576))) := by
  unfold laws_szTableau.f
  by_cases h1 : (1048576 : Int) - (n.length : Int) < 0
  · refine ⟨-1, ev_bindc (szIntS_eq n 1048576 (by omega) (by omega) hn) ?_, .inl (by omega)⟩
    rw [if_pos h1]
    exact ev_pos (by omega) (ev_val rfl)
  · obtain ⟨z, hz, hp⟩ := szIntSS_ev m (1048576 - (n.length : Int)) (by omega) (by omega) hm hr
    refine ⟨if z < 0 then -1 else z, ev_bindc (szIntS_eq n 1048576 (by omega) (by omega) hn) ?_, ?_⟩
    · rw [if_neg h1]
      refine ev_neg h1 (Ev.bind hz (ev_ite (fun h => ev_val (by rw [if_pos h])) (fun h => ev_val (by rw [if_neg h]))))
    · by_cases h : z < 0
      · rw [if_pos h]; exact .inl (by omega)
      · rw [if_neg h]
        refine .inr ⟨by omega, by omega, fun r hr' => ?_⟩
        have := bulk_mem hr'
        omega
theorem toTableau_ev (n : List Int) (m : List (List Int)) (hn : n.length ≤ 1048576) (hm : m.length ≤ 1048576) (hr : ∀ r ∈ m, r.length ≤ 1048576) : Ev (fun k => laws_toTableau.f k n m) (n, m) := by
  unfold laws_toTableau.f
  exact Ev.bind (toIntS_ev n hn) (Ev.bind (toIntSS_ev m hm hr) (ev_val rfl))
theorem eqTableau_same (n : List Int) (m : List (List Int)) (hn : n.length ≤ 1048576) (hm : m.length ≤ 1048576) (hr : ∀ r ∈ m, r.length ≤ 1048576) : Ev (fun k => laws_eqTableau.f k n m n m) true := by
  unfold laws_eqTableau.f
  exact Ev.bind (eqIntS_same n hn) (ev_pos rfl (Ev.bind (eqIntSS_same m hm hr) (ev_pos rfl (ev_val rfl))))
end Go.Proofs.Ytljjjdgnpnnmoaa.Q
