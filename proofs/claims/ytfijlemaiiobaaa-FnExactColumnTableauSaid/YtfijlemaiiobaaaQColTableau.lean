/- ColumnTableau, of the program and of the reference: the same function; condition: at most 2^20 numbers. -/
import Derived.Test.YtfijlemaiiobaaaF0
import Derived.Test.YtfijlemaiiobaaaF3
import Derived.Test.YtfijlemaiiobaaaF4
import Derived.Test.YtfijlemaiiobaaaF5
import Derived.Test.YtfijlemaiiobaaaQBase
import Derived.Test.YtfijlemaiiobaaaQRows
import Derived.Test.YtfijlemaiiobaaaQIsWord
import Derived.Test.YtfijlemaiiobaaaQCols
import Derived.Test.YtfijlemaiiobaaaQColInc
import Derived.Test.YtfijlemaiiobaaaQColSpec
import Derived.Test.YtfijlemaiiobaaaQColImpl
set_option linter.unusedVariables false
set_option linter.unusedSimpArgs false
namespace Go.Proofs.Ytfijlemaiiobaaa.Q
open Go.RowKit Go.Proofs.Ytfijlemaiiobaaa.F Go.Proofs.YtfijlemaiiobaaaW.PrintWords Go.Proofs.YtfijlemaiiobaaaW.PrintLast Go.Proofs.YtfijlemaiiobaaaW.PrintMore
/-- the columns of a word, its last number inserted first -/
def colC (w : List Int) : List (List Int) := w.reverse.foldl insCols []
def colT (w : List Int) : List Int × List (List Int) × Bool := if isWord w = true then ([], cols (colC w), true) else ([], [], false)
structure ColInv (m C : List (List Int)) (b : Nat) : Prop where
  grid : Grid m C
  pos : ∀ e ∈ C, ∀ v ∈ e, 1 ≤ v
  inc : RowInc C
  len : C.length ≤ b
  wid : ∀ c ∈ C, c.length ≤ b
theorem ColInv.rows {m C : List (List Int)} {b : Nat} (h : ColInv m C b) : m.length ≤ b ∧ ∀ r ∈ m, r.length ≤ b := by
  rw [h.grid.eq]
  obtain ⟨h1, h2⟩ := cols_bd b C h.wid
  exact ⟨h1, fun r hr => Nat.le_trans (h2 r hr).2 h.len⟩
theorem spec_l17_grid (m C : List (List Int)) (x : Int) (b : Nat) (h : ColInv m C b) (hx : 1 ≤ x) (hb : b ≤ 1000) : ∃ m', Ev (fun k => spec_l17Column.f k [] m x) ([], m') ∧ ColInv m' (insCols C x) (b + 1) := by
  obtain ⟨h1, h2⟩ := h.rows
  obtain ⟨m', g1, g2⟩ := l17_walk C [] m x (by simpa using h.grid) hx h.pos h.inc (fun e E' _ _ d hd => by simp at hd) (by omega) (fun r hr => by have := h2 r hr; omega) (by have := h.len; simp; omega)
  refine ⟨m', ?_, ?_⟩
  · unfold spec_l17Column.f
    exact Ev.bind (spec_l5Copy_ev [] m (by simp) (by omega) (fun r hr => by have := h2 r hr; omega)) g1
  · rw [List.nil_append] at g2
    obtain ⟨b1, b2⟩ := insCols_bd C x b h.wid
    have := h.len
    exact ⟨g2, insCols_pos C x hx h.pos, insCols_inc C x hx h.pos h.grid.2.2.2 h.inc, by omega, b2⟩
theorem spec_ColumnTableau_ev (w : List Int) (hl : w.length ≤ 1048576) : Ev (fun k => spec_ColumnTableau.f k w) (colT w) := by
  unfold spec_ColumnTableau.f
  cases hw : isWord w with
  | false =>
    have e0 : Ev (fun k => spec_IsWord.f k w) false := ev_eq (spec_IsWord_ev w hl) hw
    have ez : colT w = ([], [], false) := by unfold colT; rw [if_neg (by rw [hw]; decide)]
    rw [ez]
    refine Ev.step (fun k => by rw [spec_ColumnTableau.l0]) ?_
    refine ev_ite (fun _ => ?_) (fun _ => ?_)
    · exact Ev.bind e0 (ev_neg (by decide) (Ev.bind e0 (ev_val rfl)))
    · exact Ev.bind e0 (ev_val rfl)
  | true =>
    obtain ⟨h9, hr9⟩ := isWord_iff.1 hw
    have e1 : Ev (fun k => spec_IsWord.f k w) true := ev_eq (spec_IsWord_ev w hl) hw
    have key : ∀ (d : Nat) (m C : List (List Int)), d ≤ w.length → ColInv m C (w.length - d) → C = (w.drop d).reverse.foldl insCols [] → Ev (fun k => spec_ColumnTableau.l0 k w ((d : Int) - 1) [] m) (colT w) := by
      intro d
      induction d with
      | zero =>
        intro m C _ hI hC
        refine Ev.step (fun k => by rw [spec_ColumnTableau.l0]) ?_
        refine ev_neg (by omega) (Ev.bind e1 (ev_val ?_))
        rw [List.drop_zero] at hC
        unfold colT colC
        rw [if_pos hw, ← hC, hI.grid.eq]
      | succ d ih =>
        intro m C hd hI hC
        refine Ev.step (fun k => by rw [spec_ColumnTableau.l0]) ?_
        rw [show (((d + 1 : Nat) : Int) - 1) = (d : Int) by omega]
        have hx := hr9 _ (rd_mem w d (by omega))
        obtain ⟨m', g1, g2⟩ := spec_l17_grid m C (rd w (d : Int)) _ hI hx.1 (by omega)
        refine ev_pos (by omega) (Ev.bind e1 (ev_pos rfl (ev_pos (by omega) (ev_pos (by omega) (Ev.bind g1 ?_)))))
        rw [wrap_id (by omega) (by omega)]
        refine ih m' _ (by omega) (by rw [show w.length - d = w.length - (d + 1) + 1 by omega]; exact g2) ?_
        rw [drop_rd w d (by omega), List.reverse_cons, List.foldl_append, ← hC]
        rfl
    rw [wrap_id (by omega) (by omega)]
    exact key w.length [] [] (Nat.le_refl _) ⟨⟨fun i j => by simp [at2], by simp, by simp, List.Pairwise.nil⟩, by simp, trivial, by simp, by simp⟩ (by rw [List.drop_length]; rfl)
/-- how much the columns hold -/
theorem colC_bd (w : List Int) : (colC w).length ≤ w.length ∧ ∀ c ∈ colC w, c.length ≤ w.length := by
  have key : ∀ (l : List Int) (C : List (List Int)) (b : Nat), C.length ≤ b → (∀ c ∈ C, c.length ≤ b) → (l.foldl insCols C).length ≤ b + l.length ∧ ∀ c ∈ l.foldl insCols C, c.length ≤ b + l.length := by
    intro l
    induction l with
    | nil => intro C b h1 h2; exact ⟨h1, h2⟩
    | cons x l ih =>
      intro C b h1 h2
      obtain ⟨g1, g2⟩ := insCols_bd C x b h2
      have := ih (insCols C x) (b + 1) (by omega) g2
      rw [List.length_cons, show b + (l.length + 1) = b + 1 + l.length by omega]
      exact this
  have := key w.reverse [] 0 (by simp) (by simp)
  rw [List.length_reverse, Nat.zero_add] at this
  exact this
end Go.Proofs.Ytfijlemaiiobaaa.Q
