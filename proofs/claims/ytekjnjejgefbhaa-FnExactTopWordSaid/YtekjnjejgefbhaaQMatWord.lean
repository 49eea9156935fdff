/- TopWord and BottomWord: the pairs of a matrix, and the words of their first and of their second numbers; condition: at most 2^20 rows and numbers. -/
import Derived.Test.YtekjnjejgefbhaaF0
import Derived.Test.YtekjnjejgefbhaaF2
import Derived.Test.YtekjnjejgefbhaaF3
import Derived.Test.YtekjnjejgefbhaaF4
import Derived.Test.YtekjnjejgefbhaaQBase
import Derived.Test.YtekjnjejgefbhaaQRows
import Derived.Test.YtekjnjejgefbhaaQSum
import Derived.Test.YtekjnjejgefbhaaQIsIn
import Derived.Test.YtekjnjejgefbhaaQMatrix
set_option linter.unusedVariables false
set_option linter.unusedSimpArgs false
namespace Go.Proofs.Ytekjnjejgefbhaa.Q
open Go.RowKit Go.Proofs.Ytekjnjejgefbhaa.F Go.Proofs.YtekjnjejgefbhaaW.PrintWords Go.Proofs.YtekjnjejgefbhaaW.PrintLast Go.Proofs.YtekjnjejgefbhaaW.PrintMore
def rowPairs (i : Nat) : List Int → Nat → List (Int × Int)
  | [], _ => []
  | n :: r, j => List.replicate n.toNat (((i + 1 : Nat) : Int), ((j + 1 : Nat) : Int)) ++ rowPairs i r (j + 1)
def matPairs : List (List Int) → Nat → List (Int × Int)
  | [], _ => []
  | r :: m, i => rowPairs i r 0 ++ matPairs m (i + 1)
def sel (b : Bool) (p : Int × Int) : Int := if b = true then p.1 else p.2
def selW (b : Bool) (L : List (Int × Int)) : List Int := L.map (sel b)
def matWord (b : Bool) (m : List (List Int)) : List Int := if IsMat m then selW b (matPairs m 0) else []
theorem selW_append (b : Bool) (L M : List (Int × Int)) : selW b (L ++ M) = selW b L ++ selW b M := List.map_append
theorem rowPairs_drop (i : Nat) (r : List Int) (j : Nat) (hj : j < r.length) : rowPairs i (r.drop j) j = List.replicate (rd r (j : Int)).toNat (((i + 1 : Nat) : Int), ((j + 1 : Nat) : Int)) ++ rowPairs i (r.drop (j + 1)) (j + 1) := by
  rw [List.drop_eq_getElem_cons hj, rowPairs, rd_eq r j hj]
theorem matPairs_drop (m : List (List Int)) (i : Nat) (hi : i < m.length) : matPairs (m.drop i) i = rowPairs i m[i] 0 ++ matPairs (m.drop (i + 1)) (i + 1) := by
  rw [List.drop_eq_getElem_cons hi, matPairs]
theorem rowPairs_bd (i : Nat) : ∀ (r : List Int) (j : Nat), (∀ x ∈ r, x ≤ 9) → (rowPairs i r j).length ≤ 9 * r.length
  | [], _, _ => by simp [rowPairs]
  | n :: r, j, h => by
    have h1 := h n (by simp)
    have h2 := rowPairs_bd i r (j + 1) (fun x hx => h x (by simp [hx]))
    rw [rowPairs, List.length_append, List.length_replicate, List.length_cons]
    omega
theorem matPairs_bd : ∀ (m : List (List Int)) (i : Nat), (∀ r ∈ m, r.length ≤ 9 ∧ ∀ x ∈ r, x ≤ 9) → (matPairs m i).length ≤ 81 * m.length
  | [], _, _ => by simp [matPairs]
  | r :: m, i, h => by
    have h1 := h r (by simp)
    have h2 := matPairs_bd m (i + 1) (fun x hx => h x (by simp [hx]))
    have h3 := rowPairs_bd i r 0 h1.2
    rw [matPairs, List.length_append, List.length_cons]
    omega
theorem matWord_bd (b : Bool) (m : List (List Int)) : (matWord b m).length ≤ 729 := by
  unfold matWord
  split
  · rename_i h
    have h1 := matPairs_bd m 0 (fun r hr => ⟨(h.2.1 r hr).2.1, fun x hx => ((h.2.1 r hr).2.2 x hx).2⟩)
    have := h.1
    unfold selW
    rw [List.length_map]
    omega
  · simp
theorem l16_l2 (m : List (List Int)) (b : Bool) (i j : Nat) (hi : i < m.length) (hi9 : i ≤ 1000) (hj : j < (rd_L1 m (i : Int)).length) (hj9 : j ≤ 1000) (x : Nat) (hx : rd (rd_L1 m (i : Int)) (j : Int) = (x : Int)) (hx9 : x ≤ 9) (r : List Int) : ∀ (d q : Nat) (out : List Int), q + d = x → out.length + d ≤ 1000000 →
    Ev (fun k => spec_l16Word.l1 k m b (out ++ List.replicate d (sel b (((i + 1 : Nat) : Int), ((j + 1 : Nat) : Int)))) (i : Int) ((j + 1 : Nat) : Int)) r → Ev (fun k => spec_l16Word.l2 k m b out (i : Int) (j : Int) (q : Int)) r
  | 0, q, out, hq, _, h => by
    refine Ev.step (fun k => by rw [spec_l16Word.l2]) ?_
    refine ev_pos (by omega) (ev_pos (by omega) (ev_pos (by omega) (ev_pos (by omega) (ev_neg (by omega) ?_))))
    rw [wrap_succ (by omega)]
    rwa [List.replicate_zero, List.append_nil] at h
  | d + 1, q, out, hq, hl, h => by
    refine Ev.step (fun k => by rw [spec_l16Word.l2]) ?_
    refine ev_pos (by omega) (ev_pos (by omega) (ev_pos (by omega) (ev_pos (by omega) (ev_pos (by omega) ?_))))
    have e : ∀ v : Int, out ++ List.replicate (d + 1) v = (out ++ [v]) ++ List.replicate d v := fun v => by rw [List.replicate_succ, List.append_assoc]; rfl
    rw [e] at h
    rw [wrap_succ (show i < 9223372036854775807 by omega), wrap_succ (show j < 9223372036854775807 by omega), wrap_succ (show q < 9223372036854775807 by omega)]
    have hl2 : ∀ v : Int, (out ++ [v]).length + d ≤ 1000000 := fun v => by rw [List.length_append, List.length_singleton]; omega
    cases b with
    | true => exact ev_pos rfl (ev_pos (by omega) (l16_l2 m true i j hi hi9 hj hj9 x hx hx9 r d (q + 1) _ (by omega) (hl2 _) h))
    | false => exact ev_neg (by decide) (ev_pos (by omega) (l16_l2 m false i j hi hi9 hj hj9 x hx hx9 r d (q + 1) _ (by omega) (hl2 _) h))
theorem l16_l1 (m : List (List Int)) (b : Bool) (i : Nat) (hi : i < m.length) (hi9 : i ≤ 1000) (row : List Int) (hrow : rd_L1 m (i : Int) = row) (hr9 : row.length ≤ 9) (hx9 : ∀ x ∈ row, 0 ≤ x ∧ x ≤ 9) (r : List Int) : ∀ (d j : Nat) (out : List Int), j + d = row.length → out.length + 9 * d ≤ 10000 →
    Ev (fun k => spec_l16Word.l0 k m b (out ++ selW b (rowPairs i (row.drop j) j)) ((i + 1 : Nat) : Int)) r → Ev (fun k => spec_l16Word.l1 k m b out (i : Int) (j : Int)) r
  | 0, j, out, hj, _, h => by
    refine Ev.step (fun k => by rw [spec_l16Word.l1]) ?_
    refine ev_pos (by omega) (ev_pos (by omega) (ev_neg (by rw [hrow]; omega) ?_))
    rw [wrap_succ (by omega)]
    rwa [List.drop_of_length_le (by omega), rowPairs, selW, List.map_nil, List.append_nil] at h
  | d + 1, j, out, hj, hl, h => by
    have hjl : j < row.length := by omega
    have hx := hx9 _ (rd_mem row j hjl)
    obtain ⟨x, hxe⟩ : ∃ x : Nat, rd row (j : Int) = (x : Int) := ⟨(rd row (j : Int)).toNat, by omega⟩
    refine Ev.step (fun k => by rw [spec_l16Word.l1]) ?_
    refine ev_pos (by omega) (ev_pos (by omega) (ev_pos (by rw [hrow]; omega) ?_))
    refine l16_l2 m b i j hi hi9 (by rw [hrow]; exact hjl) (by omega) x (by rw [hrow]; exact hxe) (by omega) r x 0 out (by omega) (by omega) ?_
    refine l16_l1 m b i hi hi9 row hrow hr9 hx9 r d (j + 1) _ (by omega) (by rw [List.length_append, List.length_replicate]; omega) ?_
    rw [rowPairs_drop i row j hjl, selW_append, hxe, Int.toNat_natCast] at h
    rw [List.append_assoc]
    rwa [selW, List.map_replicate] at h
theorem l16_l0 (m : List (List Int)) (b : Bool) (hM : IsMat m) (hr : ∀ r ∈ m, r.length ≤ 1048576) : ∀ (d i : Nat) (out : List Int), i + d = m.length → out.length ≤ 81 * i → Ev (fun k => spec_l16Word.l0 k m b out (i : Int)) (out ++ selW b (matPairs (m.drop i) i))
  | 0, i, out, hi, _ => by
    refine Ev.step (fun k => by rw [spec_l16Word.l0]) (ev_neg (by omega) (Ev.step (fun k => by rw [spec_l16Word.j1]) (ev_neg (by decide) (ev_val ?_))))
    rw [List.drop_of_length_le (by omega), matPairs, selW, List.map_nil, List.append_nil]
  | d + 1, i, out, hi, hl => by
    have hil : i < m.length := by omega
    have hm9 := hM.1
    have hrow := hM.2.1 m[i] (List.getElem_mem hil)
    have hIM := spec_IsMatrix_ev m (by omega) hr
    rw [decide_eq_true hM] at hIM
    refine Ev.step (fun k => by rw [spec_l16Word.l0]) (ev_pos (by omega) (Ev.bind hIM (Ev.step (fun k => by rw [spec_l16Word.j1]) (ev_pos rfl ?_))))
    refine l16_l1 m b i hil (by omega) m[i] (rows_eq m i hil) hrow.2.1 hrow.2.2 _ m[i].length 0 out (by omega) (by have := hrow.2.1; omega) ?_
    rw [List.drop_zero]
    have hb := rowPairs_bd i m[i] 0 (fun x hx => (hrow.2.2 x hx).2)
    have := l16_l0 m b hM hr d (i + 1) (out ++ selW b (rowPairs i m[i] 0)) (by omega) (by rw [List.length_append, selW, List.length_map]; have := hrow.2.1; omega)
    rwa [List.append_assoc, ← selW_append, ← matPairs_drop m i hil] at this
theorem spec_l16Word_ev (m : List (List Int)) (b : Bool) (hm : m.length ≤ 1048576) (hr : ∀ r ∈ m, r.length ≤ 1048576) : Ev (fun k => spec_l16Word.f k m b) (matWord b m) := by
  unfold spec_l16Word.f matWord
  by_cases h : IsMat m
  · rw [if_pos h]
    have := l16_l0 m b h hr m.length 0 [] (by omega) (by simp)
    rwa [List.drop_zero, List.nil_append] at this
  · rw [if_neg h]
    have hIM := spec_IsMatrix_ev m hm hr
    rw [decide_eq_false h] at hIM
    refine Ev.step (fun k => by rw [spec_l16Word.l0]) (ev_ite (fun _ => Ev.bind hIM ?_) (fun _ => ?_))
    · exact Ev.step (fun k => by rw [spec_l16Word.j1]) (ev_neg (by decide) (ev_val rfl))
    · exact Ev.step (fun k => by rw [spec_l16Word.j1]) (ev_neg (by decide) (ev_val rfl))
theorem spec_TopWord_ev (m : List (List Int)) (hm : m.length ≤ 1048576) (hr : ∀ r ∈ m, r.length ≤ 1048576) : Ev (fun k => spec_TopWord.f k m) (matWord true m) := by
  unfold spec_TopWord.f
  exact Ev.bind (spec_l16Word_ev m true hm hr) (ev_val rfl)
theorem spec_BottomWord_ev (m : List (List Int)) (hm : m.length ≤ 1048576) (hr : ∀ r ∈ m, r.length ≤ 1048576) : Ev (fun k => spec_BottomWord.f k m) (matWord false m) := by
  unfold spec_BottomWord.f
  exact Ev.bind (spec_l16Word_ev m false hm hr) (ev_val rfl)
end Go.Proofs.Ytekjnjejgefbhaa.Q
