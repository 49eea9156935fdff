/- A tableau that a law is handed, over what the law holds; condition: at most 2^20 numbers. -/
import Derived.Test.YtljjjdgnpnnmoaaF0
import Derived.Test.YtljjjdgnpnnmoaaF1
import Derived.Test.YtljjjdgnpnnmoaaQBase
import Derived.Test.YtljjjdgnpnnmoaaQLawInts
import Derived.Test.YtljjjdgnpnnmoaaQLawRows
import Derived.Test.YtljjjdgnpnnmoaaQRows
import Derived.Test.YtljjjdgnpnnmoaaQLawTab
import Derived.Test.YtljjjdgnpnnmoaaQKeep
import Derived.Test.YtljjjdgnpnnmoaaQKeepInts
import Derived.Test.YtljjjdgnpnnmoaaQKeepRows
import Derived.Test.YtljjjdgnpnnmoaaQKeepTab
set_option linter.unusedVariables false
set_option linter.unusedSimpArgs false
namespace Go.Proofs.Ytljjjdgnpnnmoaa.Q
open Go.RowKit Go.Proofs.Ytljjjdgnpnnmoaa.F Go.Proofs.YtljjjdgnpnnmoaaW.PrintWords Go.Proofs.YtljjjdgnpnnmoaaW.PrintLast Go.Proofs.YtljjjdgnpnnmoaaW.PrintMore
section
variable {w W : World} {L L' : List Ob} {v0 v1 : Value} {n : List Int} {m : List (List Int)}
theorem St.boxAt (h : St w W L) (cs : Array Value) (t : Nat) {b : Nat} (hb : b = W.heap.size) : St w (W.alloc (.cells cs t (0, 0))) (obB b cs t :: L) := by
  subst hb
  exact h.box cs t
theorem szTableau_evb (n : List Int) (m : List (List Int)) (left : Int) (h0 : 0 ≤ left) (h1 : left ≤ 1048576) (hn : n.length ≤ maxLen) (hm : m.length ≤ maxLen) (hr : ∀ r ∈ m, r.length ≤ maxLen) :
    ∃ z, Ev (fun k => laws_szTableau.f k n m left) z ∧ (z < 0 ∨ (0 ≤ z ∧ z = left - (n.length : Int) - (m.length : Int) - (bulk m : Int))) := by
  unfold laws_szTableau.f
  by_cases h2 : left - (n.length : Int) < 0
  · refine ⟨-1, ev_bindc (szIntS_eq n left (by omega) (by omega) hn) ?_, .inl (by omega)⟩
    rw [if_pos h2]
    exact ev_pos (by omega) (ev_val rfl)
  · obtain ⟨z, hz, hp⟩ := szIntSS_ev m (left - (n.length : Int)) (by omega) (by omega) hm hr
    refine ⟨if z < 0 then -1 else z, ev_bindc (szIntS_eq n left (by omega) (by omega) hn) ?_, ?_⟩
    · rw [if_neg h2]
      refine ev_neg h2 (Ev.bind hz (ev_ite (fun h => ev_val (by rw [if_pos h])) (fun h => ev_val (by rw [if_neg h]))))
    · by_cases h : z < 0
      · rw [if_pos h]; exact .inl (by omega)
      · rw [if_neg h]
        exact .inr (by omega)
theorem szTableau_st {a z : Int} (h : St w W L) (h0 : Reads (Kd.int .i64) W v0 n) (h1 : Reads (Kd.slice 3 (Kd.int .i64)) W v1 m) (hE : Ev (fun k => laws_szTableau.f k n m a) z) :
    Calls Try.prog 10 #[.agg #[v0, v1], .int .i64 a] W fun e W' => e = .returned (.int .i64 z) ∧ St w W' L := by
  obtain ⟨A0, c0, rfl, hc0, hC0⟩ := h0
  obtain ⟨A1, c1, rfl, hc1, hC1⟩ := h1
  obtain ⟨K, hK⟩ := hE
  refine (laws_szTableau.calls K A0 c0 n A1 c1 m a z W hC0 hc0 hC1 hc1 (hK K (Nat.le_refl _))).mono ?_
  rintro e W' ⟨rfl, hd⟩
  exact ⟨rfl, h.quiet hd⟩
theorem toTableau_st (h : St w W L) (h0 : Reads (Kd.int .i64) W v0 n) (h1 : Reads (Kd.slice 3 (Kd.int .i64)) W v1 m) (hn : n.length ≤ 1048576) (hm : m.length ≤ 1048576) (hb : ∀ r ∈ m, r.length ≤ 1048576) :
    Calls Try.prog 12 #[.agg #[v0, v1]] W fun e W' => ∃ u0 u1 ok0 ok1, e = .returned (.agg #[u0, u1]) ∧ St w W' (obR (Kd.int .i64) 3 w ok0 u0 n :: obS (Kd.slice 3 (Kd.int .i64)) 22 w ok1 u1 m :: L) := by
  obtain ⟨A0, c0, rfl, hc0, hC0⟩ := h0
  obtain ⟨A1, c1, rfl, hc1, hC1⟩ := h1
  obtain ⟨K, hK⟩ := toTableau_ev n m hn hm hb
  refine (laws_toTableau.calls K A0 c0 n A1 c1 m n m W hC0 hc0 hC1 hc1 (hK K (Nat.le_refl _))).mono ?_
  rintro e W' ⟨u0, u1, rfl, hR, hS, hB⟩
  obtain ⟨ok0, ok1, h1⟩ := St.addRS rfl h hB hR hS
  exact ⟨u0, u1, ok0, ok1, rfl, h1⟩
end
end Go.Proofs.Ytljjjdgnpnnmoaa.Q
