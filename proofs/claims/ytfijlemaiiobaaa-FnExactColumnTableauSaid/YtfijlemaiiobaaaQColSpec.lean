/- The reference's insertion by columns: the rows with the number taken by the columns; condition: at most 2^20 elements in all. -/
import Derived.Test.YtfijlemaiiobaaaF0
import Derived.Test.YtfijlemaiiobaaaF2
import Derived.Test.YtfijlemaiiobaaaF3
import Derived.Test.YtfijlemaiiobaaaF4
import Derived.Test.YtfijlemaiiobaaaQBase
import Derived.Test.YtfijlemaiiobaaaQRows
import Derived.Test.YtfijlemaiiobaaaQPart
import Derived.Test.YtfijlemaiiobaaaQInside
import Derived.Test.YtfijlemaiiobaaaQShapeOf
import Derived.Test.YtfijlemaiiobaaaQTab
import Derived.Test.YtfijlemaiiobaaaQCols
set_option linter.unusedVariables false
set_option linter.unusedSimpArgs false
namespace Go.Proofs.Ytfijlemaiiobaaa.Q
open Go.RowKit Go.Proofs.Ytfijlemaiiobaaa.F Go.Proofs.YtfijlemaiiobaaaW.PrintWords Go.Proofs.YtfijlemaiiobaaaW.PrintLast Go.Proofs.YtfijlemaiiobaaaW.PrintMore
theorem spec_l5Copy_ev (n : List Int) (m : List (List Int)) (hn : n.length ≤ 1048576) (hm : m.length ≤ 1048576) (hr : ∀ r ∈ m, r.length ≤ 1048576) : Ev (fun k => spec_l5Copy.f k n m) (n, m) := by
  have key : ∀ (d i : Nat), i + d = m.length → Ev (fun k => spec_l5Copy.l0 k (i : Int) n m n (m.take i)) (n, m) := by
    intro d
    induction d with
    | zero =>
      intro i hi
      refine Ev.step (fun k => by rw [spec_l5Copy.l0]) ?_
      exact ev_neg (by omega) (ev_val (by rw [List.take_of_length_le (by omega)]))
    | succ d ih =>
      intro i hi
      have hlt : i < m.length := by omega
      have := hr _ (rows_mem m i hlt)
      refine Ev.step (fun k => by rw [spec_l5Copy.l0]) ?_
      refine ev_pos (by omega) (ev_bindc rfl (ev_pos (by omega) (ev_pos (by simp only [List.length_nil]; omega) (ev_pos (by rw [List.length_take]; omega) ?_))))
      rw [List.nil_append, ← take_rows m i hlt, wrap_succ (by omega)]
      exact ih (i + 1) (by omega)
  unfold spec_l5Copy.f
  refine ev_bindc rfl (ev_pos (by simp only [List.length_nil]; omega) ?_)
  rw [List.nil_append]
  exact key m.length 0 (by omega)
theorem isPart_nil : isPartition [] = true := by decide
theorem entry_at2 (m : List (List Int)) (i j : Nat) : entryOf [] m (i : Int) (j : Int) = (at2 m i j).getD 0 := by
  have e0 : at0 [] (i : Int) = 0 := at0_out [] (i : Int) (.inr (by simp))
  unfold entryOf
  rw [e0, Int.sub_zero]
  unfold at2
  by_cases h : i < m.length
  · rw [if_pos (by omega), rows_eq m i h, List.getElem?_eq_getElem h]
    show at0 m[i] (j : Int) = (m[i][j]?).getD 0
    unfold at0
    by_cases h2 : j < m[i].length
    · rw [if_pos (by omega), rd_eq _ j h2, List.getElem?_eq_getElem h2]; rfl
    · rw [if_neg (by omega), List.getElem?_eq_none (by omega)]; rfl
  · rw [if_neg (by omega), List.getElem?_eq_none (by omega)]; rfl
theorem at2_mid (D E : List (List Int)) (e : List Int) (i : Nat) : (at2 (D ++ e :: E) D.length i).getD 0 = rd e (i : Int) := by
  unfold at2
  rw [List.getElem?_append_right (Nat.le_refl _), Nat.sub_self]
  show (e[i]?).getD 0 = _
  rw [rd_nat, List.getD_eq_getElem?_getD]
theorem at2_out (D : List (List Int)) (i : Nat) : (at2 D D.length i).getD 0 = 0 := by
  unfold at2
  rw [List.getElem?_eq_none (Nat.le_refl _)]; rfl
theorem rd_out (e : List Int) : rd e (e.length : Int) = 0 := by rw [rd_nat]; simp
theorem l17_scan (m : List (List Int)) (x : Int) (c : Nat) (hc : c ≤ 1048576) (e : List Int) (r0 : Nat) (hr0 : r0 ≤ 1048576) (Z : List Int × List (List Int)) (hent : ∀ r : Nat, entryOf [] m (r : Int) (c : Int) = rd e (r : Int))
    (hlow : ∀ q : Nat, q < r0 → 0 < rd e (q : Int) ∧ rd e (q : Int) < x) (hstop : rd e (r0 : Int) = 0 ∨ x ≤ rd e (r0 : Int)) (hj : Ev (fun k => spec_l17Column.j2 k x (c : Int) (r0 : Int) [] m) Z) :
    ∀ (d r : Nat), r + d = r0 → Ev (fun k => spec_l17Column.l1 k x (c : Int) (r : Int) [] m) Z
  | 0, r, hr => by
    obtain rfl : r = r0 := by omega
    refine Ev.step (fun k => by rw [spec_l17Column.l1]) ?_
    refine Ev.bind (spec_entry_ev [] m _ _ isPart_nil (by omega) (by omega)) ?_
    rw [hent]
    refine ev_ite (fun h => Ev.bind (spec_entry_ev [] m _ _ isPart_nil (by omega) (by omega)) ?_) (fun _ => hj)
    rw [hent]
    exact ev_neg (by omega) hj
  | d + 1, r, hr => by
    obtain ⟨h1, h2⟩ := hlow r (by omega)
    refine Ev.step (fun k => by rw [spec_l17Column.l1]) ?_
    refine Ev.bind (spec_entry_ev [] m _ _ isPart_nil (by omega) (by omega)) ?_
    rw [hent]
    refine ev_pos h1 (Ev.bind (spec_entry_ev [] m _ _ isPart_nil (by omega) (by omega)) ?_)
    rw [hent]
    refine ev_pos h2 ?_
    rw [wrap_succ (by omega)]
    exact l17_scan m x c hc e r0 hr0 Z hent hlow hstop hj d (r + 1) (by omega)
theorem l17_walk : ∀ (E D m : List (List Int)) (x : Int), Grid m (D ++ E) → 1 ≤ x → (∀ e ∈ E, ∀ v ∈ e, 1 ≤ v) → RowInc E → (∀ e E', E = e :: E' → bumpC e x < 0 → ∀ d ∈ D, e.length < d.length) → m.length ≤ 1048576 → (∀ r ∈ m, r.length ≤ 1048576) → D.length + E.length ≤ 1048576 →
    ∃ m', Ev (fun k => spec_l17Column.l0 k x (D.length : Int) [] m) ([], m') ∧ Grid m' (D ++ insCols E x)
  | [], D, m, x, hG, hx, _, _, _, hm, hr, hl => by
    rw [List.append_nil] at hG
    have hent : ∀ r : Nat, entryOf [] m (r : Int) (D.length : Int) = rd [] (r : Int) := by
      intro r
      rw [entry_at2, hG.1, at2_out]
      simp [rd_nat]
    obtain ⟨f1, f2⟩ := hG.fresh x
    have go : ∀ m', Ev (fun k => spec_l17Column.j2 k x (D.length : Int) ((0 : Nat) : Int) [] m) ([], m') → Ev (fun k => spec_l17Column.l0 k x (D.length : Int) [] m) ([], m') := by
      intro m' hj
      refine Ev.step (fun k => by rw [spec_l17Column.l0]) ?_
      exact l17_scan m x D.length (by simp at hl; omega) [] 0 (by omega) _ hent (fun q hq => by omega) (.inl (rd_out [])) hj 0 0 rfl
    have hz : entryOf [] m ((0 : Nat) : Int) (D.length : Int) = 0 := by rw [hent]; exact rd_out []
    by_cases hD : D = []
    · obtain ⟨g1, g2⟩ := f1 hD
      subst hD
      subst g1
      refine ⟨[[x]], go _ ?_, g2⟩
      refine Ev.step (fun k => by rw [spec_l17Column.j2]) ?_
      refine Ev.bind (spec_entry_ev [] _ _ _ isPart_nil (by omega) (by omega)) ?_
      rw [hz]
      have er0 : rd_L1 ([] ++ [[]]) ((0 : Nat) : Int) = [] := by rw [rows_nat]; rfl
      exact ev_pos rfl (ev_pos (by simp) (ev_pos (by simp) (ev_bindc rfl (ev_pos (by simp) (ev_pos (by simp) (ev_pos (by rw [er0]; simp) (ev_val (by rw [er0]; rfl))))))))
    · obtain ⟨g1, g2, g3⟩ := f2 hD
      refine ⟨_, go _ ?_, g3⟩
      refine Ev.step (fun k => by rw [spec_l17Column.j2]) ?_
      refine Ev.bind (spec_entry_ev [] _ _ _ isPart_nil (by omega) (by simp at hl; omega)) ?_
      rw [hz]
      refine ev_pos rfl (ev_neg (by omega) (ev_pos (by omega) (ev_pos (by omega) ?_)))
      rw [rows_eq m 0 g1]
      exact ev_pos (by have := hr m[0] (List.getElem_mem g1); omega) (ev_val rfl)
  | e :: E, D, m, x, hG, hx, hpos, hinc, hq, hm, hr, hl => by
    rw [List.length_cons] at hl
    have hent : ∀ r : Nat, entryOf [] m (r : Int) (D.length : Int) = rd e (r : Int) := by
      intro r
      rw [entry_at2, hG.1, at2_mid]
    have hep : ∀ q : Nat, q < e.length → 1 ≤ rd e (q : Int) := fun q hq => hpos e (by simp) _ (rd_mem e q hq)
    rcases bumpC_split e x with ⟨hb, hall⟩ | ⟨q, hqe, hb, hge, hlow⟩
    · -- put at the end of the column
      have hD := hq e E rfl hb
      obtain ⟨f1, f2⟩ := hG.push x hD
      have hel : e.length ≤ 1048576 := by
        by_cases h0 : D = []
        · have := (f1 h0).1; omega
        · obtain ⟨g, _⟩ := f2 h0; omega
      have go : ∀ m', Ev (fun k => spec_l17Column.j2 k x (D.length : Int) (e.length : Int) [] m) ([], m') → Ev (fun k => spec_l17Column.l0 k x (D.length : Int) [] m) ([], m') := by
        intro m' hj
        refine Ev.step (fun k => by rw [spec_l17Column.l0]) ?_
        exact l17_scan m x D.length (by omega) e e.length hel _ hent (fun q hq => ⟨by have := hep q hq; omega, hall _ (rd_mem e q hq)⟩) (.inl (rd_out e)) hj e.length 0 (by omega)
      have hz : entryOf [] m (e.length : Int) (D.length : Int) = 0 := by rw [hent]; exact rd_out e
      have eI : insCols (e :: E) x = (e ++ [x]) :: E := by rw [insCols, if_pos hb]
      rw [eI]
      by_cases h0 : D = []
      · obtain ⟨g1, g2⟩ := f1 h0
        subst h0
        refine ⟨_, go _ ?_, g2⟩
        refine Ev.step (fun k => by rw [spec_l17Column.j2]) ?_
        refine Ev.bind (spec_entry_ev [] _ _ _ isPart_nil (by omega) (by omega)) ?_
        rw [hz]
        refine ev_pos rfl (ev_pos (by omega) (ev_pos (by omega) (ev_bindc rfl (ev_pos (by omega) (ev_pos (by rw [List.length_append, List.length_singleton]; omega) ?_)))))
        have er : rd_L1 (m ++ [[]]) (e.length : Int) = [] := by rw [rows_nat, ← g1]; simp
        rw [er]
        refine ev_pos (by simp) (ev_val ?_)
        rw [Int.toNat_natCast, ← g1]
        simp
      · obtain ⟨g1, g2, g3⟩ := f2 h0
        refine ⟨_, go _ ?_, g3⟩
        refine Ev.step (fun k => by rw [spec_l17Column.j2]) ?_
        refine Ev.bind (spec_entry_ev [] _ _ _ isPart_nil (by omega) (by omega)) ?_
        rw [hz]
        refine ev_pos rfl (ev_neg (by omega) (ev_pos (by omega) (ev_pos (by omega) ?_)))
        rw [rows_eq m _ g1]
        exact ev_pos (by have := hr _ (List.getElem_mem g1); omega) (ev_val (by rw [Int.toNat_natCast]))
    · -- a number is put out
      obtain ⟨g1, g2, g3⟩ := hG.turn q hqe x
      obtain ⟨y, hy⟩ : ∃ y, y = rd e (q : Int) := ⟨_, rfl⟩
      have hdd := (List.pairwise_append.1 hG.2.2.2).2.2
      have hmr := hr _ (List.getElem_mem g1)
      have ih := l17_walk E (D ++ [e.set q x]) (m.set q (m[q].set D.length x)) y (by simpa using g2) (by rw [hy]; exact hep q hqe) (fun f hf => hpos f (by simp [hf])) (by
          cases E with
          | nil => trivial
          | cons f E => exact hinc.2) (by
          rintro f E' rfl hbf d hd
          have hfq : f.length ≤ q := by
            rcases bumpC_split f y with ⟨_, hallf⟩ | ⟨s, _, hs, _⟩
            · refine Nat.le_of_not_lt fun hlt => ?_
              have h1 := hinc.1 q hlt
              have h2 := hallf _ (rd_mem f q hlt)
              omega
            · omega
          rcases List.mem_append.1 hd with g | g
          · have := hdd d g e (by simp)
            omega
          · obtain rfl : d = e.set q x := by simpa using g
            rw [List.length_set]; omega) (by rw [List.length_set]; exact hm) (fun r h => by
          rcases List.mem_or_eq_of_mem_set h with g | g
          · exact hr r g
          · subst g; rw [List.length_set]; exact hmr) (by simp; omega)
      obtain ⟨m', h1, h2⟩ := ih
      have eI : insCols (e :: E) x = e.set q x :: insCols E y := by
        rw [insCols, if_neg (by omega), hb, Int.toNat_natCast, hy]
      refine ⟨m', ?_, by rw [eI]; simpa using h2⟩
      refine Ev.step (fun k => by rw [spec_l17Column.l0]) ?_
      refine l17_scan m x D.length (by omega) e q (by omega) _ hent (fun s hs => ⟨by have := hep s (by omega); omega, hlow s hs⟩) (.inr hge) ?_ q 0 (by omega)
      refine Ev.step (fun k => by rw [spec_l17Column.j2]) ?_
      refine Ev.bind (spec_entry_ev [] _ _ _ isPart_nil (by omega) (by omega)) ?_
      rw [hent, ← hy]
      have hy1 := hep q hqe
      refine ev_neg (by omega) (ev_pos (by omega) (ev_pos (by omega) (ev_pos (by omega) ?_)))
      rw [rows_eq m _ g1]
      refine ev_pos (by omega) ?_
      rw [Int.toNat_natCast, Int.toNat_natCast, wrap_succ (by omega)]
      rw [List.length_append, List.length_singleton] at h1
      exact h1
theorem spec_l17Column_ev (m : List (List Int)) (x : Int) (hd : Desc m) (hne : ∀ r ∈ m, r ≠ []) (hx : 1 ≤ x) (hpos : ∀ e ∈ cols m, ∀ v ∈ e, 1 ≤ v) (hinc : RowInc (cols m)) (hm : m.length ≤ 1048576) (hr : ∀ r ∈ m, r.length ≤ 1048576) :
    Ev (fun k => spec_l17Column.f k [] m x) ([], cols (insCols (cols m) x)) := by
  unfold spec_l17Column.f
  refine Ev.bind (spec_l5Copy_ev [] m (by simp) hm hr) ?_
  obtain ⟨m', h1, h2⟩ := l17_walk (cols m) [] m x (grid_cols m hd hne) hx hpos hinc (fun e E' _ _ d hd => by simp at hd) hm hr (by
    have := (cols_bd 1048576 m hr).1
    simpa using this)
  rw [List.nil_append] at h2
  rw [← h2.eq]
  exact h1
end Go.Proofs.Ytfijlemaiiobaaa.Q
