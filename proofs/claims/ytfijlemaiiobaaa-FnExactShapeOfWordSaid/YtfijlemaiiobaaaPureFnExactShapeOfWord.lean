/- The law on ShapeOfWord, as a statement over lists of whole numbers: it answers true at each list; no condition beyond the statement's own. -/
import Derived.Test.YtfijlemaiiobaaaF0
import Derived.Test.YtfijlemaiiobaaaF10
import Derived.Test.YtfijlemaiiobaaaQBase
import Derived.Test.YtfijlemaiiobaaaQLawInts
import Derived.Test.YtfijlemaiiobaaaQMark
import Derived.Test.YtfijlemaiiobaaaQShapeOfWord
set_option linter.unusedVariables false
set_option linter.unusedSimpArgs false
namespace Go.Proofs.Ytfijlemaiiobaaa.Pure
open Go.RowKit Go.Proofs.Ytfijlemaiiobaaa.F Go.Proofs.YtfijlemaiiobaaaW.PrintWords Go.Proofs.YtfijlemaiiobaaaW.PrintLast Go.Proofs.YtfijlemaiiobaaaW.PrintMore Go.Proofs.Ytfijlemaiiobaaa.Q
theorem FnExactShapeOfWord : laws_FnExactShapeOfWord.Pure := by
  intro l _ _ _
  refine Ev.rounds ?_
  unfold laws_FnExactShapeOfWord.f
  refine ev_ite (fun _ => ev_val rfl) (fun hb => ?_)
  have hl : l.length ≤ 1048576 := by omega
  have h9 := shapeOfWord_small l
  refine Ev.bind (toIntS_ev l hl) (Ev.bind (spec_ShapeOfWord_ev l hl) (Ev.bind (toIntS_ev l hl) (Ev.bind (impl_ShapeOfWord_ev l) (Ev.bind (eqIntS_same _ (by omega)) (ev_pos rfl ?_)))))
  refine Ev.bind (toIntS_ev l hl) (Ev.bind (eqIntS_same l hl) (ev_pos rfl (Ev.bind (markIntS_ev l 1 (by omega) (by omega)) (ev_neg (by simp; omega) (Ev.bind (eqIntS_same _ (by omega)) ?_)))))
  refine Ev.step (fun k => by rw [laws_FnExactShapeOfWord.j0]) ?_
  refine ev_neg (by simp) (Ev.bind (markIntS_ev _ 1 (by omega) (by omega)) (Ev.bind (heldIntS_ev 1 _ (by omega) (by omega)) (ev_neg (by omega) (ev_pos rfl ?_))))
  refine Ev.bind (toIntS_ev l hl) (Ev.bind (impl_ShapeOfWord_ev l) (Ev.bind (eqIntS_same _ (by omega)) (ev_pos rfl ?_)))
  exact Ev.bind (heldIntS_ev 1 _ (by omega) (by omega)) (ev_neg (by omega) (ev_pos rfl (ev_val rfl)))
end Go.Proofs.Ytfijlemaiiobaaa.Pure
