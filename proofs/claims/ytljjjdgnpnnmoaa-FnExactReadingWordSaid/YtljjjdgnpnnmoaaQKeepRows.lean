/- The law's helpers on lists of lists of whole numbers, over what the law holds; condition: at most 2^60 numbers (2^20 where they are made). -/
import Derived.Test.YtljjjdgnpnnmoaaF0
import Derived.Test.YtljjjdgnpnnmoaaF1
import Derived.Test.YtljjjdgnpnnmoaaF7
import Derived.Test.YtljjjdgnpnnmoaaQBase
import Derived.Test.YtljjjdgnpnnmoaaQLawInts
import Derived.Test.YtljjjdgnpnnmoaaQLawRows
import Derived.Test.YtljjjdgnpnnmoaaQMark
import Derived.Test.YtljjjdgnpnnmoaaQMarkRows
import Derived.Test.YtljjjdgnpnnmoaaQKeep
set_option linter.unusedVariables false
set_option linter.unusedSimpArgs false
namespace Go.Proofs.Ytljjjdgnpnnmoaa.Q
open Go.RowKit Go.Proofs.Ytljjjdgnpnnmoaa.F Go.Proofs.YtljjjdgnpnnmoaaW.PrintWords Go.Proofs.YtljjjdgnpnnmoaaW.PrintLast Go.Proofs.YtljjjdgnpnnmoaaW.PrintMore
section
variable {w W : World} {L L' : List Ob} {ok ok' : Nat → Prop} {v v' : Value} {xs ys : List (List Int)}
theorem toIntSS_st (h : St w W L) (hr : Reads (Kd.slice 3 (Kd.int .i64)) W v xs) (hl : xs.length ≤ 1048576) (hb : ∀ r ∈ xs, r.length ≤ 1048576) :
    Calls Try.prog 37 #[v] W fun e W' => ∃ v1 ok1, e = .returned v1 ∧ St w W' (obS (Kd.slice 3 (Kd.int .i64)) 22 w ok1 v1 xs :: L) := by
  obtain ⟨A, c, rfl, hc, hC⟩ := hr
  obtain ⟨K, hK⟩ := toIntSS_ev xs hl hb
  refine (laws_toIntSS.calls K A c xs xs W hC hc (hK K (Nat.le_refl _))).mono ?_
  rintro e W' ⟨v1, rfl, hR, hB⟩
  obtain ⟨ok1, h1⟩ := h.addS hB hR
  exact ⟨v1, ok1, rfl, h1⟩
theorem eqIntSS_st_same (h : St w W L) (hr : Reads (Kd.slice 3 (Kd.int .i64)) W v xs) (hr' : Reads (Kd.slice 3 (Kd.int .i64)) W v' xs) (hl : xs.length ≤ 1152921504606846976) (hb : ∀ r ∈ xs, r.length ≤ 1152921504606846976) :
    Calls Try.prog 40 #[v, v'] W fun e W' => e = .returned (.bool true) ∧ St w W' L := by
  obtain ⟨A, c, rfl, hc, hC⟩ := hr
  obtain ⟨A', c', rfl, hc', hC'⟩ := hr'
  obtain ⟨K, hK⟩ := eqIntSS_ev xs xs hl hb
  refine (laws_eqIntSS.calls K A c xs A' c' xs _ W hC hc hC' hc' (hK K (Nat.le_refl _))).mono ?_
  rintro e W' ⟨rfl, hd⟩
  exact ⟨by simp, h.drawn hd⟩
theorem markIntSS_st (h : St w W L) (i : Nat) (hi : L[i]? = some (obS (Kd.slice 3 (Kd.int .i64)) 22 w ok v xs)) (m : Nat) (hm : m ≤ 1152921504606846976) (hl : xs.length ≤ 1152921504606846976) (hb : bulk xs ≤ 1152921504606846976)
    (hL : L.set i (obS (Kd.slice 3 (Kd.int .i64)) 22 w ok v (rowMarks m xs)) = L') :
    Calls Try.prog 42 #[v, .int .i64 (m : Int)] W fun e W' => e = .returned (.int .i64 ((m + bulk xs : Nat) : Int)) ∧ St w W' L' := by
  have hR : Kd.S (Kd.slice 3 (Kd.int .i64)) 22 W w.heap.size ok v xs := h.get i hi
  refine (markIntSS_calls ok v xs m w W h.below hR hb hm hl).mono ?_
  rintro e W' ⟨rfl, hr, hb, hk⟩
  exact ⟨rfl, h.mark (o' := obS (Kd.slice 3 (Kd.int .i64)) 22 w ok v (rowMarks m xs)) i hi rfl firmS hb hk hr hL⟩
end
theorem szIntSS_st {w W : World} {L : List Ob} {v : Value} {xs : List (List Int)} {a z : Int} (h : St w W L) (hr : Reads (Kd.slice 3 (Kd.int .i64)) W v xs) (hE : Ev (fun k => laws_szIntSS.f k xs a) z) :
    Calls Try.prog 33 #[v, .int .i64 a] W fun e W' => e = .returned (.int .i64 z) ∧ St w W' L := by
  obtain ⟨A, c, rfl, hc, hC⟩ := hr
  obtain ⟨K, hK⟩ := hE
  refine (laws_szIntSS.calls K A c xs a z W hC hc (hK K (Nat.le_refl _))).mono ?_
  rintro e W' ⟨rfl, hd⟩
  exact ⟨rfl, h.drawn hd⟩
end Go.Proofs.Ytljjjdgnpnnmoaa.Q
