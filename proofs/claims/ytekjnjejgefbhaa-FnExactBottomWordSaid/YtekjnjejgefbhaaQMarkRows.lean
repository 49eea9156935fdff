/- The marks of a list of lists of whole numbers, and the walk of the function that sets them: what it marks is a made row of rows; condition: at most 2^60 numbers. -/
import Derived.Test.YtekjnjejgefbhaaF0
import Derived.Test.YtekjnjejgefbhaaF1
import Derived.Test.YtekjnjejgefbhaaQBase
import Derived.Test.YtekjnjejgefbhaaQMark
import Derived.Test.YtekjnjejgefbhaaQRows
set_option linter.unusedVariables false
set_option linter.unusedSimpArgs false
namespace Go.Proofs.Ytekjnjejgefbhaa.Q
open Go.RowKit Go.Proofs.Ytekjnjejgefbhaa.F Go.Proofs.YtekjnjejgefbhaaW.PrintWords Go.Proofs.YtekjnjejgefbhaaW.PrintLast Go.Proofs.YtekjnjejgefbhaaW.PrintMore
/-- m, m + 1 and so on, over the rows -/
def rowMarks (m : Nat) : List (List Int) → List (List Int)
  | [] => []
  | r :: l => marks m r.length :: rowMarks (m + r.length) l
theorem rowMarks_length (l : List (List Int)) (m : Nat) : (rowMarks m l).length = l.length := by
  induction l generalizing m with
  | nil => rfl
  | cons r l ih => simp [rowMarks, ih]
theorem bulk_append (a b : List (List Int)) : bulk (a ++ b) = bulk a + bulk b := by
  induction a with
  | nil => simp [bulk]
  | cons r l ih => simp only [List.cons_append, bulk, ih]; omega
theorem rowMarks_append (a b : List (List Int)) (m : Nat) : rowMarks m (a ++ b) = rowMarks m a ++ rowMarks (m + bulk a) b := by
  induction a generalizing m with
  | nil => simp [rowMarks, bulk]
  | cons r l ih => simp only [List.cons_append, rowMarks, bulk, ih, Nat.add_assoc]
theorem bulk_rowMarks (l : List (List Int)) (m : Nat) : bulk (rowMarks m l) = bulk l := by
  induction l generalizing m with
  | nil => rfl
  | cons r l ih => simp [rowMarks, bulk, ih, marks_length]
theorem rowMarks_step (l : List (List Int)) (m i : Nat) (h : i < l.length) :
    (rowMarks m (l.take i) ++ l.drop i).set i (marks (m + bulk (l.take i)) (l.getD i []).length) = rowMarks m (l.take (i + 1)) ++ l.drop (i + 1) := by
  have e : l.getD i [] = l[i] := by rw [List.getD_eq_getElem?_getD, List.getElem?_eq_getElem h]; rfl
  rw [e, List.take_succ_eq_append_getElem h, rowMarks_append, List.set_append_right _ _ (by rw [rowMarks_length, List.length_take]; omega), rowMarks_length, List.length_take, Nat.min_eq_left (Nat.le_of_lt h), Nat.sub_self]
  simp only [rowMarks, List.append_assoc, List.cons_append, List.nil_append]
  rw [show l.drop i = l[i] :: l.drop (i + 1) from List.drop_eq_getElem_cons h]
  rfl
set_option maxHeartbeats 4000000 in
set_option maxRecDepth 100000 in
theorem markIntSS_calls (P : Nat → Prop) (u : Value) (l : List (List Int)) (m : Nat) (w0 w : World) (hB : Below w0.heap.size w0 w) (hS : Kd.S (Kd.slice 3 (Kd.int .i64)) 22 w w0.heap.size P u l)
    (hb : bulk l ≤ 1152921504606846976) (hm : m ≤ 1152921504606846976) (hl : l.length ≤ 1152921504606846976) :
    Calls Try.prog 31 #[u, .int .i64 (m : Int)] w fun e w' => e = .returned (.int .i64 ((m + bulk l : Nat) : Int)) ∧ Kd.S (Kd.slice 3 (Kd.int .i64)) 22 w' w0.heap.size P u (rowMarks m l) ∧ Below w0.heap.size w0 w' ∧ Kept w w' P := by
  have HS := Aside0.mk hS
  have HB := Aside0.mk hB
  obtain ⟨A, c, hu⟩ := Kd.R_slice (Kd.S_R hS)
  subst hu
  clear hS hB
  go_enter Try.func31, Try.ntmps31
  go_wp2
  go_loopg [1, 5] l.length (fun kq v1 v5 wr => ∃ i j : Nat, i ≤ l.length ∧ l.length - i ≤ kq ∧ Aside0 (j = m + bulk (l.take i)) ∧ v1 = .int .i64 (j : Int) ∧ v5 = .int .i64 i ∧ Aside0 (Kd.S (Kd.slice 3 (Kd.int .i64)) 22 wr w0.heap.size P (.slice A l.length c) (rowMarks m (l.take i) ++ l.drop i)) ∧ Aside0 (Below w0.heap.size w0 wr) ∧ Aside0 (Kept w wr P))
  case atStart => exact ⟨0, m, Nat.zero_le _, by omega, ⟨by simp [bulk]⟩, rfl, rfl, HS, HB, ⟨Kept.refl _ _⟩⟩
  case round =>
    clear HS HB
    obtain ⟨i, j, hi, hg, HJ, rfl, rfl, HS, HB, HK⟩ := hrel
    by_cases hlt : i < l.length
    · have hltz : (i : Int) < (l.length : Int) := by omega
      have hx : (rowMarks m (l.take i) ++ l.drop i).getD (i : Int).toNat [] = l.getD i [] := by
        rw [Int.toNat_natCast, List.getD_eq_getElem?_getD, List.getElem?_append_right (by rw [rowMarks_length, List.length_take]; omega), rowMarks_length, List.length_take, Nat.min_eq_left hi, Nat.sub_self, List.getElem?_drop, Nat.add_zero, List.getD_eq_getElem?_getD]
      obtain ⟨g, cc, e0⟩ : ∃ g cc, (Value.slice A l.length c) = .slice (some ⟨g, 0, none⟩) l.length cc := by
        obtain ⟨g, cc, e0, _⟩ := Kd.R_form (Kd.S_R HS.out) (by simp [rowMarks_length]; omega)
        injection e0 with ea el ec
        exact ⟨g, c, by rw [ea]⟩
      injection e0 with ea _ ec
      subst ea ec
      obtain ⟨oki, cs, hcl, hM, hcc, hfr, hoki, hH⟩ := Kd.S_elem HS.out [] (i : Int) (by omega) (by omega)
      rw [hx] at hM
      obtain ⟨v, rfl, hR⟩ := hM
      obtain ⟨A1, c1, e1⟩ := Kd.R_slice hR
      subst e1
      have hx1 := hcc 0 _ rfl
      rw [show (i : Int).toNat * (Kd.slice 3 (Kd.int .i64)).sz + 0 = i from by show (i : Int).toNat * 1 + 0 = i; omega] at hx1
      have hlb : (l.getD i []).length + bulk (l.take i) ≤ bulk l := by
        have e : l.getD i [] = l[i] := by rw [List.getD_eq_getElem?_getD, List.getElem?_eq_getElem hlt]; rfl
        have h1 := bulk_append (l.take (i + 1)) (l.drop (i + 1))
        rw [List.take_append_drop, List.take_succ_eq_append_getElem hlt, bulk_append] at h1
        rw [e]
        simp only [bulk] at h1
        omega
      have hj := HJ.out
      obtain ⟨K, hK⟩ := markIntS_ev (l.getD i []) j (by omega) (by omega)
      have hst := rowMarks_step l m i hlt
      rw [← hj] at hst
      have hjj : j + (l.getD i []).length = m + bulk (l.take (i + 1)) := by
        have e : l.getD i [] = l[i] := by rw [List.getD_eq_getElem?_getD, List.getElem?_eq_getElem hlt]; rfl
        rw [List.take_succ_eq_append_getElem hlt, bulk_append, e, hj]
        simp only [bulk]
        omega
      have J1 := Aside0.mk hjj
      have ST := Aside0.mk hst
      have HK1 := Aside0.mk (hK K (Nat.le_refl _))
      have HR := Aside0.mk hR
      have HO := Aside0.mk hoki
      have HH := Aside0.mk hH
      clear hst hK hR hoki hH hjj hj hx hcl hcc hfr HJ
      generalize l.getD i [] = r at hx1 HR HK1 ST J1 HH hlb
      go_wp2_with (go_at_call 16; (with_reducible refine (laws_markIntS.calls K oki _ r (j : Int) _ _ w0 _ HB.out HR.out HK1.out).mono ?_); rintro e w6 ⟨rfl, hr6, hb6, hk6⟩; have R6 := Aside0.mk hr6; have B6 := Aside0.mk hb6; have K6 := Aside0.mk hk6; clear hr6 hb6 hk6)
      go_roundg (l.length - (i + 1))
      case measure => omega
      case rel =>
        refine ⟨i + 1, j + r.length, by omega, by omega, J1, rfl, by go_num, ⟨?_⟩, B6, ⟨HK.out.then_ K6.out (fun k hk => .inl (HO.out k hk).1)⟩⟩
        rw [← ST.out]
        have h1 := Kd.H_back (Kd.H_step HH.out (fun k _ hn hlt => K6.out.2 k hlt hn)) (x' := marks j r.length) (okp := oki) ⟨_, rfl, Kd.R_mono (Kd.R_tight rfl R6.out) (fun k hk => HR.out.1 k hk.symm)⟩ (fun _ h => h)
        rwa [Int.toNat_natCast] at h1
    · have : i = l.length := by omega
      subst this
      have hltz : ¬ (l.length : Int) < (l.length : Int) := by omega
      replace HS := Aside0.mk (show Kd.S _ _ _ _ _ _ (rowMarks m l) by have := HS.out; rwa [List.take_length, List.drop_length, List.append_nil] at this)
      go_wp2
      go_ret
      exact ⟨by have := HJ.out; rw [List.take_length] at this; rw [this]; rfl, HS.out, HB.out, HK.out⟩
end Go.Proofs.Ytekjnjejgefbhaa.Q
