/- The law's helpers on lists of whole numbers, over what the law holds; condition: at most 2^60 numbers (2^20 where they are made). -/
import Derived.Test.YtekjnjejgefbhaaF0
import Derived.Test.YtekjnjejgefbhaaF1
import Derived.Test.YtekjnjejgefbhaaQBase
import Derived.Test.YtekjnjejgefbhaaQLawInts
import Derived.Test.YtekjnjejgefbhaaQMark
import Derived.Test.YtekjnjejgefbhaaQKeep
set_option linter.unusedVariables false
set_option linter.unusedSimpArgs false
namespace Go.Proofs.Ytekjnjejgefbhaa.Q
open Go.RowKit Go.Proofs.Ytekjnjejgefbhaa.F Go.Proofs.YtekjnjejgefbhaaW.PrintWords Go.Proofs.YtekjnjejgefbhaaW.PrintLast Go.Proofs.YtekjnjejgefbhaaW.PrintMore
section
variable {w W : World} {L L' : List Ob} {ok ok' : Nat → Prop} {v v' : Value} {xs ys : List Int}
theorem toIntS_st (h : St w W L) (hr : Reads (Kd.int .i64) W v xs) (hl : xs.length ≤ 1048576) :
    Calls Try.prog 13 #[v] W fun e W' => ∃ v1 ok1, e = .returned v1 ∧ St w W' (obR (Kd.int .i64) 3 w ok1 v1 xs :: L) := by
  obtain ⟨A, c, rfl, hc, hC⟩ := hr
  obtain ⟨K, hK⟩ := toIntS_ev xs hl
  refine (laws_toIntS.calls K A c xs xs W hC hc (hK K (Nat.le_refl _))).mono ?_
  rintro e W' ⟨v1, rfl, hR, hB⟩
  obtain ⟨ok1, h1⟩ := h.addR hB hR
  exact ⟨v1, ok1, rfl, h1⟩
theorem eqIntS_st (h : St w W L) (hr : Reads (Kd.int .i64) W v xs) (hr' : Reads (Kd.int .i64) W v' ys) (hl : xs.length ≤ 1152921504606846976) :
    Calls Try.prog 15 #[v, v'] W fun e W' => e = .returned (.bool (decide (xs = ys))) ∧ St w W' L := by
  obtain ⟨A, c, rfl, hc, hC⟩ := hr
  obtain ⟨A', c', rfl, hc', hC'⟩ := hr'
  obtain ⟨K, hK⟩ := eqIntS_ev xs ys hl
  refine (laws_eqIntS.calls K A c xs A' c' ys _ W hC hc hC' hc' (hK K (Nat.le_refl _))).mono ?_
  rintro e W' ⟨rfl, hd⟩
  exact ⟨rfl, h.drawn hd⟩
theorem eqIntS_st_same (h : St w W L) (hr : Reads (Kd.int .i64) W v xs) (hr' : Reads (Kd.int .i64) W v' xs) (hl : xs.length ≤ 1152921504606846976) :
    Calls Try.prog 15 #[v, v'] W fun e W' => e = .returned (.bool true) ∧ St w W' L := by
  refine (eqIntS_st h hr hr' hl).mono ?_
  rintro e W' ⟨rfl, hd⟩
  exact ⟨by simp, hd⟩
theorem markIntS_st (h : St w W L) (i : Nat) (hi : L[i]? = some (obR (Kd.int .i64) 3 w ok v xs)) (m : Nat) (hm : m ≤ 2305843009213693952) (hl : xs.length ≤ 1152921504606846976) (hL : L.set i (obR (Kd.int .i64) 3 w ok v (marks m xs.length)) = L') :
    Calls Try.prog 16 #[v, .int .i64 (m : Int)] W fun e W' => e = .returned (.int .i64 ((m + xs.length : Nat) : Int)) ∧ St w W' L' := by
  obtain ⟨K, hK⟩ := markIntS_ev xs m hl hm
  have hR : Kd.R (Kd.int .i64) 3 W w.heap.size ok v xs := h.get i hi
  refine (laws_markIntS.calls K ok v xs (m : Int) _ _ w W h.below hR (hK K (Nat.le_refl _))).mono ?_
  rintro e W' ⟨rfl, hr, hb, hk⟩
  exact ⟨rfl, h.mark (o' := obR (Kd.int .i64) 3 w ok v (marks m xs.length)) i hi rfl firmR hb hk (Kd.R_mono (Kd.R_tight rfl hr) (fun k hk => hR.1 k hk.symm)) hL⟩
theorem heldIntS_st (h : St w W L) (n : Nat) (m : Nat) (hr : Reads (Kd.int .i64) W v (marks m n)) (hm : m ≤ 2305843009213693952) (hl : n ≤ 1152921504606846976) :
    Calls Try.prog 17 #[v, .int .i64 (m : Int)] W fun e W' => e = .returned (.int .i64 ((m + n : Nat) : Int)) ∧ St w W' L := by
  obtain ⟨A, c, rfl, hc, hC⟩ := hr
  obtain ⟨K, hK⟩ := heldIntS_ev m n hl hm
  refine (laws_heldIntS.calls K A c _ (m : Int) _ W hC hc (hK K (Nat.le_refl _))).mono ?_
  rintro e W' ⟨rfl, hd⟩
  exact ⟨rfl, h.drawn hd⟩
end
end Go.Proofs.Ytekjnjejgefbhaa.Q
