/- IsLattice, of the program and of the reference: read from behind, no number is ever more frequent than the number ahead of it; condition: at most 2^20 elements. -/
import Derived.Test.YtieoemobdbmhhaaF0
import Derived.Test.YtieoemobdbmhhaaF2
import Derived.Test.YtieoemobdbmhhaaF3
import Derived.Test.YtieoemobdbmhhaaQBase
import Derived.Test.YtieoemobdbmhhaaQIsWord
set_option linter.unusedVariables false
set_option linter.unusedSimpArgs false
namespace Go.Proofs.Ytieoemobdbmhhaa.Q
open Go.RowKit Go.Proofs.Ytieoemobdbmhhaa.F Go.Proofs.YtieoemobdbmhhaaW.PrintWords Go.Proofs.YtieoemobdbmhhaaW.PrintLast Go.Proofs.YtieoemobdbmhhaaW.PrintMore
def isLattice (l : List Int) : Bool := isWord l && (latRun lat0 l.reverse).isSome
theorem impl_IsLattice_eq (l : List Int) : impl_IsLattice.f l = some (isLattice l) := by
  unfold impl_IsLattice.f isLattice
  rw [impl_IsWord_eq]; rfl
/-- the reference's eleven cells and the program's ten hold the same -/
def Lat2 (cs es : List Int) : Prop := cs.length = 10 ∧ es.length = 11 ∧ ∀ j : Nat, j ≤ 9 → rd es (j : Int) = rd cs (j : Int)
theorem Lat2.set {cs es : List Int} (h : Lat2 cs es) (i : Nat) (hi : i ≤ 9) (v : Int) : Lat2 (cs.set i v) (es.set i v) := by
  obtain ⟨h1, h2, h3⟩ := h
  refine ⟨by rw [List.length_set, h1], by rw [List.length_set, h2], fun j hj => ?_⟩
  rw [rd_set es i j v (by omega), rd_set cs i j v (by omega), h3 j hj]
theorem spec_IsLattice_l0 (l : List Int) (hl : l.length ≤ 1048576) (hw : isWord l = true) : ∀ (i : Nat), i ≤ l.length → ∀ cs es, Lat2 cs es → Ev (fun k => spec_IsLattice.l0 k l es ((i : Int) - 1)) (latRun cs (l.take i).reverse).isSome := by
  intro i
  induction i with
  | zero =>
    intro _ cs es _
    refine Ev.step (fun k => by rw [spec_IsLattice.l0]) ?_
    refine ev_neg (by omega) ?_
    refine Ev.step (fun k => by rw [spec_IsLattice.j1]) ?_
    refine ev_neg (by simp) (Ev.bind (spec_IsWord_ev l hl) (ev_val ?_))
    rw [hw, List.take_zero]; rfl
  | succ i ih =>
    intro hi cs es h
    obtain ⟨h9, hall⟩ := isWord_iff.1 hw
    have hx := hall _ (rd_mem l i (by omega))
    have e1 : (((i + 1 : Nat) : Int) - 1) = (i : Int) := by omega
    rw [e1, take_rd l i (by omega), List.reverse_append, List.reverse_cons, List.reverse_nil, List.nil_append, List.singleton_append, latRun]
    obtain ⟨n, hn⟩ : ∃ n : Nat, rd l (i : Int) = (n : Int) := ⟨(rd l (i : Int)).toNat, by omega⟩
    rw [hn] at hx ⊢
    have hn9 : n ≤ 9 := by omega
    have e2 : wrap64 ((n : Int) - 1) = ((n - 1 : Nat) : Int) := by unfold wrap64; omega
    have e3 : ((n : Int) - 1) = ((n - 1 : Nat) : Int) := by omega
    have e4 : wrap64 ((i : Int) - 1) = (i : Int) - 1 := by unfold wrap64; omega
    have hs := h.set n hn9 (wrap64 (rd es (n : Int) + 1))
    refine Ev.step (fun k => by rw [spec_IsLattice.l0]) ?_
    refine ev_pos (by omega) (Ev.bind (spec_IsWord_ev l hl) ?_)
    rw [hw]
    refine Ev.step (fun k => by rw [spec_IsLattice.j1]) ?_
    rw [hn, Int.toNat_natCast, e2, e4]
    have h11 := h.2.1
    refine ev_pos rfl (ev_pos (by omega) (ev_pos (by omega) (ev_pos (by omega) (ev_pos (by omega) (ev_bindc rfl ?_)))))
    unfold latStep
    rw [Int.toNat_natCast, e3, ← h.2.2 n hn9, ← hs.2.2 n hn9, ← hs.2.2 (n - 1) (by omega)]
    refine ev_ite (fun h1 => ev_pos (by omega) (ev_pos (by omega) (ev_ite (fun h2 => ev_val ?_) (fun h2 => ?_)))) (fun h1 => ?_)
    · rw [if_pos ⟨h1, h2⟩]; rfl
    · rw [if_neg (fun h => h2 h.2)]; exact ih (by omega) _ _ hs
    · rw [if_neg (fun h => h1 h.1)]; exact ih (by omega) _ _ hs
theorem spec_IsLattice_l0_not (l : List Int) (hl : l.length ≤ 1048576) (hw : isWord l = false) (es : List Int) (i : Int) : Ev (fun k => spec_IsLattice.l0 k l es i) false := by
  refine Ev.step (fun k => by rw [spec_IsLattice.l0]) ?_
  have hj : Ev (fun k => spec_IsLattice.j1 k l es i false) false := by
    refine Ev.step (fun k => by rw [spec_IsLattice.j1]) ?_
    refine ev_neg (by simp) (Ev.bind (spec_IsWord_ev l hl) (ev_val hw))
  refine ev_ite (fun _ => Ev.bind (spec_IsWord_ev l hl) ?_) (fun _ => hj)
  rw [hw]; exact hj
theorem spec_IsLattice_ev (l : List Int) (hl : l.length ≤ 1048576) : Ev (fun k => spec_IsLattice.f k l) (isLattice l) := by
  unfold spec_IsLattice.f isLattice
  refine ev_pos (by decide) ?_
  have e : wrap64 ((l.length : Int) - 1) = ((l.length : Nat) : Int) - 1 := by unfold wrap64; omega
  rw [e]
  cases hw : isWord l with
  | false => exact spec_IsLattice_l0_not l hl hw _ _
  | true =>
    rw [Bool.true_and]
    have h := spec_IsLattice_l0 l hl hw l.length (Nat.le_refl _) lat0 (List.replicate 11 0) ⟨rfl, rfl, fun j hj => by
      have h : ∀ j : Fin 10, rd (List.replicate 11 (0 : Int)) ((j.1 : Nat) : Int) = rd lat0 ((j.1 : Nat) : Int) := by decide
      exact h ⟨j, by omega⟩⟩
    rwa [List.take_length] at h
end Go.Proofs.Ytieoemobdbmhhaa.Q
