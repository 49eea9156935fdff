/- The law's helpers on lists of lists of whole numbers, over what the law holds; condition: at most 2^60 numbers (2^20 where they are made). -/
import Derived.Test.YtekjnjejgefbhaaF0
import Derived.Test.YtekjnjejgefbhaaF1
import Derived.Test.YtekjnjejgefbhaaF2
import Derived.Test.YtekjnjejgefbhaaF8
import Derived.Test.YtekjnjejgefbhaaQBase
import Derived.Test.YtekjnjejgefbhaaQLawInts
import Derived.Test.YtekjnjejgefbhaaQLawRows
import Derived.Test.YtekjnjejgefbhaaQMark
import Derived.Test.YtekjnjejgefbhaaQMarkRows
import Derived.Test.YtekjnjejgefbhaaQKeep
set_option linter.unusedVariables false
set_option linter.unusedSimpArgs false
namespace Go.Proofs.Ytekjnjejgefbhaa.Q
open Go.RowKit Go.Proofs.Ytekjnjejgefbhaa.F Go.Proofs.YtekjnjejgefbhaaW.PrintWords Go.Proofs.YtekjnjejgefbhaaW.PrintLast Go.Proofs.YtekjnjejgefbhaaW.PrintMore
section
variable {w W : World} {L L' : List Ob} {ok ok' : Nat → Prop} {v v' : Value} {xs ys : List (List Int)}
theorem toIntSS_st (h : St w W L) (hr : Reads (Kd.slice 3 (Kd.int .i64)) W v xs) (hl : xs.length ≤ 1048576) (hb : ∀ r ∈ xs, r.length ≤ 1048576) :
    Calls Try.prog 20 #[v] W fun e W' => ∃ v1 ok1, e = .returned v1 ∧ St w W' (obS (Kd.slice 3 (Kd.int .i64)) 22 w ok1 v1 xs :: L) := by
  obtain ⟨A, c, rfl, hc, hC⟩ := hr
  obtain ⟨K, hK⟩ := toIntSS_ev xs hl hb
  refine (laws_toIntSS.calls K A c xs xs W hC hc (hK K (Nat.le_refl _))).mono ?_
  rintro e W' ⟨v1, rfl, hR, hB⟩
  obtain ⟨ok1, h1⟩ := h.addS hB hR
  exact ⟨v1, ok1, rfl, h1⟩
theorem eqIntSS_st_same (h : St w W L) (hr : Reads (Kd.slice 3 (Kd.int .i64)) W v xs) (hr' : Reads (Kd.slice 3 (Kd.int .i64)) W v' xs) (hl : xs.length ≤ 1152921504606846976) (hb : ∀ r ∈ xs, r.length ≤ 1152921504606846976) :
    Calls Try.prog 22 #[v, v'] W fun e W' => e = .returned (.bool true) ∧ St w W' L := by
  obtain ⟨A, c, rfl, hc, hC⟩ := hr
  obtain ⟨A', c', rfl, hc', hC'⟩ := hr'
  obtain ⟨K, hK⟩ := eqIntSS_ev xs xs hl hb
  refine (laws_eqIntSS.calls K A c xs A' c' xs _ W hC hc hC' hc' (hK K (Nat.le_refl _))).mono ?_
  rintro e W' ⟨rfl, hd⟩
  exact ⟨by simp, h.drawn hd⟩
theorem markIntSS_st (h : St w W L) (i : Nat) (hi : L[i]? = some (obS (Kd.slice 3 (Kd.int .i64)) 22 w ok v xs)) (m : Nat) (hm : m ≤ 1152921504606846976) (hl : xs.length ≤ 1152921504606846976) (hb : bulk xs ≤ 1152921504606846976)
    (hL : L.set i (obS (Kd.slice 3 (Kd.int .i64)) 22 w ok v (rowMarks m xs)) = L') :
    Calls Try.prog 31 #[v, .int .i64 (m : Int)] W fun e W' => e = .returned (.int .i64 ((m + bulk xs : Nat) : Int)) ∧ St w W' L' := by
  have hR : Kd.S (Kd.slice 3 (Kd.int .i64)) 22 W w.heap.size ok v xs := h.get i hi
  refine (markIntSS_calls ok v xs m w W h.below hR hb hm hl).mono ?_
  rintro e W' ⟨rfl, hr, hb, hk⟩
  exact ⟨rfl, h.mark (o' := obS (Kd.slice 3 (Kd.int .i64)) 22 w ok v (rowMarks m xs)) i hi rfl firmS hb hk hr hL⟩
theorem heldIntSS_ev (l : List (List Int)) (m : Nat) (hl : l.length ≤ 1152921504606846976) (hb : bulk l ≤ 1152921504606846976) (hm : m ≤ 1152921504606846976) : Ev (fun k => laws_heldIntSS.f k (rowMarks m l) (m : Int)) ((m + bulk l : Nat) : Int) := by
  unfold laws_heldIntSS.f
  have key : ∀ (a b : List (List Int)), a ++ b = l → Ev (fun k => laws_heldIntSS.l0 k (rowMarks m l) ((m + bulk a : Nat) : Int) (a.length : Int)) ((m + bulk l : Nat) : Int) := by
    intro a b hab
    induction b generalizing a with
    | nil =>
      rw [List.append_nil] at hab
      subst hab
      refine Ev.step (fun k => by rw [laws_heldIntSS.l0]) ?_
      exact ev_neg (by rw [rowMarks_length]; omega) (ev_val rfl)
    | cons r b ih =>
      have hlen : a.length < l.length := by rw [← hab]; simp
      have hbl : bulk a + r.length ≤ bulk l := by rw [← hab, bulk_append]; simp only [bulk]; omega
      have hrow : rd_L1 (rowMarks m l) (a.length : Int) = marks (m + bulk a) r.length := by
        rw [rows_nat, ← hab, rowMarks_append, List.getD_eq_getElem?_getD, List.getElem?_append_right (by rw [rowMarks_length]; exact Nat.le_refl _), rowMarks_length, Nat.sub_self]
        rfl
      have := ih (a ++ [r]) (by rw [← hab]; simp)
      rw [bulk_append, List.length_append] at this
      simp only [bulk, List.length_cons, List.length_nil, Nat.add_zero, Nat.zero_add] at this
      refine Ev.step (fun k => by rw [laws_heldIntSS.l0]) ?_
      refine ev_pos (by rw [rowMarks_length]; omega) (ev_pos (by omega) ?_)
      rw [hrow]
      refine Ev.bind (heldIntS_ev (m + bulk a) r.length (by omega) (by omega)) (ev_neg (by omega) ?_)
      rw [wrap_succ (by omega), Nat.add_assoc]
      exact this
  have := key [] l rfl
  simpa [bulk] using this
theorem heldIntSS_st (h : St w W L) (xs : List (List Int)) (m : Nat) (hr : Reads (Kd.slice 3 (Kd.int .i64)) W v (rowMarks m xs)) (hm : m ≤ 1152921504606846976) (hl : xs.length ≤ 1152921504606846976) (hb : bulk xs ≤ 1152921504606846976) :
    Calls Try.prog 32 #[v, .int .i64 (m : Int)] W fun e W' => e = .returned (.int .i64 ((m + bulk xs : Nat) : Int)) ∧ St w W' L := by
  obtain ⟨A, c, rfl, hc, hC⟩ := hr
  obtain ⟨K, hK⟩ := heldIntSS_ev xs m hl hb hm
  refine (laws_heldIntSS.calls K A c _ (m : Int) _ W hC hc (hK K (Nat.le_refl _))).mono ?_
  rintro e W' ⟨rfl, hd⟩
  exact ⟨rfl, h.drawn hd⟩
end
theorem szIntSS_st {w W : World} {L : List Ob} {v : Value} {xs : List (List Int)} {a z : Int} (h : St w W L) (hr : Reads (Kd.slice 3 (Kd.int .i64)) W v xs) (hE : Ev (fun k => laws_szIntSS.f k xs a) z) :
    Calls Try.prog 18 #[v, .int .i64 a] W fun e W' => e = .returned (.int .i64 z) ∧ St w W' L := by
  obtain ⟨A, c, rfl, hc, hC⟩ := hr
  obtain ⟨K, hK⟩ := hE
  refine (laws_szIntSS.calls K A c xs a z W hC hc (hK K (Nat.le_refl _))).mono ?_
  rintro e W' ⟨rfl, hd⟩
  exact ⟨rfl, h.drawn hd⟩
end Go.Proofs.Ytekjnjejgefbhaa.Q
