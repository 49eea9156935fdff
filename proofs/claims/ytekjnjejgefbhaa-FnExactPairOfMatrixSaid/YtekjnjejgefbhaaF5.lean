/- For each Go function named below: the plain Lean function that it computes, and that its call returns just that; conditions: those that each theorem names. -/
import Derived.Test.YtekjnjejgefbhaaF0
import Derived.Test.YtekjnjejgefbhaaF4
namespace Go.Proofs.Ytekjnjejgefbhaa.F
open Go.RowKit Go.Proofs.YtekjnjejgefbhaaW.PrintWords Go.Proofs.YtekjnjejgefbhaaW.PrintLast Go.Proofs.YtekjnjejgefbhaaW.PrintMore
attribute [local go_sem] max2_int min2_int max_two min_two max_three min_three max_four min_four   -- for this text's walks alone
set_option linter.unusedVariables false
set_option linter.unusedSimpArgs false
abbrev zB5_0 : Array Bool := #[false, false, false, false, false, false, false, false, false, false, false, false, false]
abbrev zB5_1 : Array Bool := #[true, false, false, false, false, false, false, false, false, false, false, false, false]
abbrev zB5_2 : Array Bool := #[true, false, true, false, false, false, false, false, false, false, false, false, false]
abbrev zB5_3 : Array Bool := #[true, false, true, true, false, false, false, false, false, false, false, false, false]
abbrev zB5_4 : Array Bool := #[true, false, true, true, false, true, false, false, false, false, false, false, false]
abbrev zB5_5 : Array Bool := #[true, false, true, true, false, true, false, false, true, false, false, false, false]
abbrev zB5_6 : Array Bool := #[true, true, true, true, false, true, false, false, true, false, false, false, false]
abbrev zB5_7 : Array Bool := #[true, true, true, true, true, true, false, false, true, false, false, false, false]
abbrev zB5_8 : Array Bool := #[true, true, true, true, true, true, true, false, true, false, false, false, false]
abbrev zB5_9 : Array Bool := #[true, true, true, true, true, true, true, true, true, false, false, false, false]
abbrev zB5_10 : Array Bool := #[true, true, true, true, true, true, true, true, true, true, false, false, false]
abbrev zB5_11 : Array Bool := #[true, true, true, true, true, true, true, true, true, true, true, false, false]
abbrev zB5_12 : Array Bool := #[true, true, true, true, true, true, true, true, true, true, true, true, false]
abbrev zB5_13 : Array Bool := #[true, true, true, true, true, true, true, true, true, true, true, true, true]

/-! ### spec_l9Insert: function 69 -/
mutual
def spec_l9Insert.l0 : Nat → Int → Int → List Int → List (List Int) → Option (List Int × (List (List Int)) × Int)
 | 0, _, _, _, _ => none
 | k + 1, x1, x7, x207000, x207001 => if x7 < (x207001.length : Int) then (spec_l9Insert.l1 k x1 x7 0 x207000 x207001) else (if x207001.length < 5864062014805 then ((some (x207001 ++ [(([x1] : List Int))] : List (List Int))).bind fun y210 => (some (x207000, y210, wrap64 ((y210.length : Int) - 1)))) else (none))
def spec_l9Insert.l1 : Nat → Int → Int → Int → List Int → List (List Int) → Option (List Int × (List (List Int)) × Int)
 | 0, _, _, _, _, _ => none
 | k + 1, x1, x7, x8, x207000, x207001 => if 0 ≤ x7 then (if x7 < (x207001.length : Int) then (if x8 < ((rd_L1 x207001 x7).length : Int) then (if 0 ≤ x8 then (if (rd (rd_L1 x207001 x7) x8) ≤ x1 then (spec_l9Insert.l1 k x1 x7 (wrap64 (x8 + 1)) x207000 x207001) else (if x8 = ((rd_L1 x207001 x7).length : Int) then (if (rd_L1 x207001 x7).length < 17592186044416 then (some (x207000, (x207001.set (x7 : Int).toNat ((rd_L1 x207001 x7) ++ [x1])), x7)) else (none)) else (spec_l9Insert.l0 k (rd (rd_L1 x207001 x7) x8) (wrap64 (x7 + 1)) x207000 (x207001.set (x7 : Int).toNat ((rd_L1 x207001 x7).set (x8 : Int).toNat x1))))) else (none)) else (if x8 = ((rd_L1 x207001 x7).length : Int) then (if (rd_L1 x207001 x7).length < 17592186044416 then (some (x207000, (x207001.set (x7 : Int).toNat ((rd_L1 x207001 x7) ++ [x1])), x7)) else (none)) else (if 0 ≤ x8 then (none) else (none)))) else (none)) else (none)
end
def spec_l9Insert.f (k : Nat) (l0_0 : List Int) (l0_1 : List (List Int)) (a1 : Int) : Option (List Int × (List (List Int)) × Int) := (spec_l5Copy.f k l0_0 l0_1).bind fun bt200 => (spec_l9Insert.l0 k a1 0 bt200.1 bt200.2)
theorem spec_l9Insert.mono_l : ∀ k, (∀ y0 y1 y2 y3, LeO (spec_l9Insert.l0 k y0 y1 y2 y3) (spec_l9Insert.l0 (k + 1) y0 y1 y2 y3)) ∧ (∀ y0 y1 y2 y3 y4, LeO (spec_l9Insert.l1 k y0 y1 y2 y3 y4) (spec_l9Insert.l1 (k + 1) y0 y1 y2 y3 y4))
 | 0 => ⟨fun _ _ _ _ r h => by simp [spec_l9Insert.l0] at h, fun _ _ _ _ _ r h => by simp [spec_l9Insert.l1] at h⟩
 | k + 1 => by
  obtain ⟨ih0, ih1⟩ := spec_l9Insert.mono_l k
  refine ⟨?_, ?_⟩
  ·intro y0 y1 y2 y3
   unfold spec_l9Insert.l0
   repeat' first
   | (with_reducible exact ih0 _ _ _ _)
   | (with_reducible exact ih1 _ _ _ _ _)
   | (with_reducible exact spec_l5Copy.mono _ _ _)
   | (with_reducible exact LeO.refl _)
   | (with_reducible exact LeO.none _)
   | (with_reducible refine LeO.ite ?_ ?_)
   | (with_reducible refine LeO.bind ?_ (fun _ => ?_))
   | exact ih0 _ _ _ _
   | exact ih1 _ _ _ _ _
   | exact spec_l5Copy.mono _ _ _
   | exact LeO.none _
   | refine LeO.ite ?_ ?_
   | refine LeO.bind ?_ (fun _ => ?_)
  ·intro y0 y1 y2 y3 y4
   unfold spec_l9Insert.l1
   repeat' first
   | (with_reducible exact ih0 _ _ _ _)
   | (with_reducible exact ih1 _ _ _ _ _)
   | (with_reducible exact spec_l5Copy.mono _ _ _)
   | (with_reducible exact LeO.refl _)
   | (with_reducible exact LeO.none _)
   | (with_reducible refine LeO.ite ?_ ?_)
   | (with_reducible refine LeO.bind ?_ (fun _ => ?_))
   | exact ih0 _ _ _ _
   | exact ih1 _ _ _ _ _
   | exact spec_l5Copy.mono _ _ _
   | exact LeO.none _
   | refine LeO.ite ?_ ?_
   | refine LeO.bind ?_ (fun _ => ?_)
theorem spec_l9Insert.mono : ∀ a0 a1 a2 k, LeO (spec_l9Insert.f k a0 a1 a2) (spec_l9Insert.f (k + 1) a0 a1 a2) := by
 intro a0 a1 a2 k
 obtain ⟨ih0, ih1⟩ := spec_l9Insert.mono_l k
 unfold spec_l9Insert.f
 repeat' first
   | (with_reducible exact ih0 _ _ _ _)
   | (with_reducible exact ih1 _ _ _ _ _)
   | (with_reducible exact spec_l5Copy.mono _ _ _)
   | (with_reducible exact LeO.refl _)
   | (with_reducible exact LeO.none _)
   | (with_reducible refine LeO.ite ?_ ?_)
   | (with_reducible refine LeO.bind ?_ (fun _ => ?_))
   | exact ih0 _ _ _ _
   | exact ih1 _ _ _ _ _
   | exact spec_l5Copy.mono _ _ _
   | exact LeO.none _
   | refine LeO.ite ?_ ?_
   | refine LeO.bind ?_ (fun _ => ?_)
def spec_l9Insert.T9 : Bool × List (List Nat × List Nat) := (true, [([], []), ([0], [0]), ([], []), ([], []), ([3], [3]), ([], []), ([4, 5], [4, 5]), ([6], [6]), ([], []), ([8], [8]), ([7, 9], [7, 9]), ([1, 2, 0, 1, 2, 3, 4, 5, 6, 7, 8, 9, 10], [1, 2]), ([11, 10, 10, 0, 1, 2, 3, 4, 5, 6, 7, 8, 9, 10], [10, 11])])
def spec_l9Insert.B9 : List Nat := [0, 1, 0, 0, 8, 0, 56, 120, 0, 256, 1016, 2047, 4095]
theorem spec_l9Insert.tab9 : rtab .any (opsOf Try.f69 9) = spec_l9Insert.T9 := by kernel_rfl
theorem spec_l9Insert.bits9 : waitsOk spec_l9Insert.T9.2 spec_l9Insert.B9 = true := by kernel_rfl
set_option maxHeartbeats 8000000 in
set_option maxRecDepth 100000 in
theorem spec_l9Insert.calls (k : Nat) (A0_0 : Option Addr) (c0_0 : Nat) (l0_0 : List Int) (A0_1 : Option Addr) (c0_1 : Nat) (l0_1 : List (List Int)) (a1 : Int) (r1 : List Int) (r2 : List (List Int)) (r3 : Int) (w : World) (hr0_0 : Kd.C (Kd.int .i64) w A0_0 l0_0.length l0_0) (hc0_0 : l0_0.length ≤ c0_0) (hr0_1 : Kd.C (Kd.slice 3 (Kd.int .i64)) w A0_1 l0_1.length l0_1) (hc0_1 : l0_1.length ≤ c0_1) (h : spec_l9Insert.f k l0_0 l0_1 a1 = some (r1, r2, r3)) :
  Calls Try.prog 69 #[.agg #[.slice A0_0 l0_0.length c0_0, .slice A0_1 l0_1.length c0_1], .int .i64 a1] w fun e w' => ∃ v0_ v1_ : Value, e = .returned (.tuple #[.agg #[v0_, v1_], .int .i64 r3]) ∧ Kd.R (Kd.int .i64) 3 w' w.heap.size (fun _ => True) v0_ r1 ∧ Kd.S (Kd.slice 3 (Kd.int .i64)) 22 w' w.heap.size (fun k_ => some k_ ≠ (v0_ : Value).ownBlock) v1_ r2 ∧ Below w.heap.size w w' := by
 have hu40 := Try.underlying40
 have HR0_0 := Aside0.mk hr0_0
 have HC0_0 := Aside0.mk hc0_0
 clear hr0_0 hc0_0
 have HR0_1 := Aside0.mk hr0_1
 have HC0_1 := Aside0.mk hc0_1
 clear hr0_1 hc0_1
 have HB := Aside0.mk (Below.refl w.heap.size w)
 have H : ((spec_l5Copy.f k l0_0 l0_1).bind fun bt200 => (spec_l9Insert.l0 k a1 0 bt200.1 bt200.2)) = some (r1, r2, r3) := h
 clear h
 replace H := Option.bind_eq_some_iff.mp H
 obtain ⟨⟨t200, t203⟩, A30, H⟩ := H
 replace H : (spec_l9Insert.l0 k a1 0 t200 t203) = some (r1, r2, r3) := H
 have A3 := Aside0.mk A30
 clear A30
 have H' := Aside0.mk H
 clear H
 go_enter Try.func69, Try.ntmps69
 go_wp2_with (first | ((with_reducible refine gate_dst (N := 2) rfl ?_); refine zX (N := 2) (cs := #[.slice A0_0 l0_0.length c0_0, .slice A0_1 l0_1.length c0_1]) (t := 40) ?_; intro gb198 hg w4 hbox hb; have n0_ := Aside0.mk (below_step (by repeat (first | (with_reducible first | exact HB.out | apply below_alloc | apply pw_below_drewN | apply below_drew1) | exact HB.out)) hb); have n1_ := Aside0.mk (hbox); have n2_ := Aside0.mk ((by rw [hg]; exact (below_size (by repeat (first | (with_reducible first | exact HB.out | apply below_alloc | apply pw_below_drewN | apply below_drew1) | exact HB.out))) : w.heap.size ≤ gb198)); have n3_ := Aside0.mk ((by rw [hg]; exact (below_size (by repeat (first | (with_reducible first | exact HB.out | apply below_alloc | apply pw_below_drewN | apply below_drew1) | exact HB.out))) : w.heap.size ≤ gb198)); clear HB; have HB := n0_; have BK198 := n1_; have GW198 := n2_; have GE198 := n3_; clear n0_ n1_ n2_ n3_; clear hb hbox hg) | ((with_reducible refine gate_dst (N := 4) rfl ?_); refine zX (N := 4) (cs := #[.slice none 0 0, .slice none 0 0]) (t := 40) ?_; intro gb199 hg w5 hbox hb; have n0_ := Aside0.mk (blk_below (g := gb198) (o := .cells #[.slice A0_0 l0_0.length c0_0, .slice A0_1 l0_1.length c0_1] 40 (0, 0)) (by (with_reducible repeat (first | refine blk_drewN ?_ _ | refine blk_drew ?_ | refine blk_alloc ?_ _)); exact BK198.out) hb); have n1_ := Aside0.mk (below_step (by repeat (first | (with_reducible first | exact HB.out | apply below_alloc | apply pw_below_drewN | apply below_drew1 | refine below_set ?_ GE198.out) | exact HB.out)) hb); have n2_ := Aside0.mk (hbox); have n3_ := Aside0.mk ((by rw [hg]; exact (below_size (by repeat (first | (with_reducible first | exact HB.out | apply below_alloc | apply pw_below_drewN | apply below_drew1 | refine below_set ?_ GE198.out) | exact HB.out))) : w.heap.size ≤ gb199)); have n4_ := Aside0.mk ((by rw [hg]; exact (below_size (by repeat (first | (with_reducible first | exact HB.out | apply below_alloc | apply pw_below_drewN | apply below_drew1 | refine below_set ?_ GE198.out) | exact HB.out))) : w.heap.size ≤ gb199)); have n5_ := Aside0.mk ((by rw [hg]; exact Nat.ne_of_lt (blk_lt (g := gb198) (o := .cells #[.slice A0_0 l0_0.length c0_0, .slice A0_1 l0_1.length c0_1] 40 (0, 0)) (by (with_reducible repeat (first | refine blk_drewN ?_ _ | refine blk_drew ?_ | refine blk_alloc ?_ _)); exact BK198.out)) : gb198 ≠ gb199)); have n6_ := Aside0.mk ((by rw [hg]; exact Nat.ne_of_gt (blk_lt (g := gb198) (o := .cells #[.slice A0_0 l0_0.length c0_0, .slice A0_1 l0_1.length c0_1] 40 (0, 0)) (by (with_reducible repeat (first | refine blk_drewN ?_ _ | refine blk_drew ?_ | refine blk_alloc ?_ _)); exact BK198.out)) : gb199 ≠ gb198)); clear BK198; clear HB; have BK198 := n0_; have HB := n1_; have BK199 := n2_; have GW199 := n3_; have GE199 := n4_; have NB198_199 := n5_; have NB199_198 := n6_; clear n0_ n1_ n2_ n3_ n4_ n5_ n6_; clear hb hbox hg; have hnb6 := NB198_199.out; have hnc6 := NB199_198.out; have hcz7_0 : w5.cell? ⟨gb198, 0, none⟩ = some (.slice A0_0 l0_0.length c0_0) := (blk_cell BK198.out 0).trans rfl; have hcz7_1 : w5.cell? ⟨gb198, 1, none⟩ = some (.slice A0_1 l0_1.length c0_1) := (blk_cell BK198.out 1).trans rfl; have hfz7_0 := blk_frozen BK198.out 0; have hfz7_1 := blk_frozen BK198.out 1) | ((with_reducible refine gate_callee (f := 73) rfl ?_); refine zG (some 11) Try.func73 #[.agg #[.slice A0_0 l0_0.length c0_0, .slice A0_1 l0_1.length c0_1]] ?_; (with_reducible refine (spec_l5Copy.calls k _ _ l0_0 _ _ l0_1 t200 t203 _ ?side1 ?side2 ?side3 ?side4 A3.out).mono ?_); (case side1 => repeat (first | exact (Kd.C_below HR0_0.out HB.out) | (with_reducible refine Kd.C_alloc ?_ _) | (with_reducible refine Kd.C_drewN ?_ _) | (with_reducible refine Kd.C_drew ?_))); (case side2 => exact HC0_0.out); (case side3 => repeat (first | exact (Kd.C_below HR0_1.out HB.out) | (with_reducible refine Kd.C_alloc ?_ _) | (with_reducible refine Kd.C_drewN ?_ _) | (with_reducible refine Kd.C_drew ?_))); (case side4 => exact HC0_1.out); rintro e w8 ⟨v201, v204, rfl, ho0, ho1, hb⟩; refine ⟨_, rfl, ?_⟩; have n0_ := Aside0.mk (Kd.R_lower ho0 (below_size (by repeat (first | (with_reducible first | exact HB.out | apply below_alloc | apply pw_below_drewN | apply below_drew1 | refine below_set ?_ GE198.out | refine below_set ?_ GE199.out) | exact HB.out)))); have n1_ := Aside0.mk (Kd.S_lower ho1 (below_size (by repeat (first | (with_reducible first | exact HB.out | apply below_alloc | apply pw_below_drewN | apply below_drew1 | refine below_set ?_ GE198.out | refine below_set ?_ GE199.out) | exact HB.out)))); have n2_ := Aside0.mk (blk_below (g := gb198) (o := .cells #[.slice A0_0 l0_0.length c0_0, .slice A0_1 l0_1.length c0_1] 40 (0, 0)) (by (with_reducible repeat (first | refine blk_drewN ?_ _ | refine blk_drew ?_ | refine blk_alloc ?_ _)); exact BK198.out) hb); have n3_ := Aside0.mk (blk_below (g := gb199) (o := .cells #[.slice none 0 0, .slice none 0 0] 40 (0, 0)) (by (with_reducible repeat (first | refine blk_drewN ?_ _ | refine blk_drew ?_ | refine blk_alloc ?_ _)); exact BK199.out) hb); have n4_ := Aside0.mk (below_step (by repeat (first | (with_reducible first | exact HB.out | apply below_alloc | apply pw_below_drewN | apply below_drew1 | refine below_set ?_ GE198.out | refine below_set ?_ GE199.out) | exact HB.out)) hb); clear BK198; clear BK199; clear HB; have HO202 := n0_; have HO205 := n1_; have BK198 := n2_; have BK199 := n3_; have HB := n4_; clear n0_ n1_ n2_ n3_ n4_; (try clear hb); (try clear hb2); (try clear hk); (try clear hi); (try clear ho0); (try clear ho1)) | ((with_reducible refine gate_dst (N := 6) rfl ?_); refine zX (N := 6) (cs := #[.slice none 0 0, .slice none 0 0]) (t := 40) ?_; intro gb206 hg w9 hbox hb; have n0_ := Aside0.mk (Kd.R_below (by (with_reducible repeat (first | apply Kd.R_alloc | apply Kd.R_drewN | apply Kd.R_drew)); exact HO202.out) hb); have n1_ := Aside0.mk (Kd.S_below (by (with_reducible repeat (first | apply Kd.S_alloc | apply Kd.S_drewN | apply Kd.S_drew)); exact HO205.out) hb); have n2_ := Aside0.mk (blk_below (g := gb198) (o := .cells #[.slice A0_0 l0_0.length c0_0, .slice A0_1 l0_1.length c0_1] 40 (0, 0)) (by (with_reducible repeat (first | refine blk_drewN ?_ _ | refine blk_drew ?_ | refine blk_alloc ?_ _)); exact BK198.out) hb); have n3_ := Aside0.mk (blk_below (g := gb199) (o := .cells #[.slice none 0 0, .slice none 0 0] 40 (0, 0)) (by (with_reducible repeat (first | refine blk_drewN ?_ _ | refine blk_drew ?_ | refine blk_alloc ?_ _)); exact BK199.out) hb); have n4_ := Aside0.mk (below_step (by repeat (first | (with_reducible first | exact HB.out | apply below_alloc | apply pw_below_drewN | apply below_drew1 | refine below_set ?_ GE198.out | refine below_set ?_ GE199.out) | exact HB.out)) hb); have n5_ := Aside0.mk (hbox); have n6_ := Aside0.mk ((by rw [hg]; exact (below_size (by repeat (first | (with_reducible first | exact HB.out | apply below_alloc | apply pw_below_drewN | apply below_drew1 | refine below_set ?_ GE198.out | refine below_set ?_ GE199.out) | exact HB.out))) : w.heap.size ≤ gb206)); have n7_ := Aside0.mk ((by rw [hg]; exact (below_size (by repeat (first | (with_reducible first | exact HB.out | apply below_alloc | apply pw_below_drewN | apply below_drew1 | refine below_set ?_ GE198.out | refine below_set ?_ GE199.out) | exact HB.out))) : w.heap.size ≤ gb206)); have n8_ := Aside0.mk ((by rw [hg]; exact Nat.ne_of_lt (blk_lt (g := gb198) (o := .cells #[.slice A0_0 l0_0.length c0_0, .slice A0_1 l0_1.length c0_1] 40 (0, 0)) (by (with_reducible repeat (first | refine blk_drewN ?_ _ | refine blk_drew ?_ | refine blk_alloc ?_ _)); exact BK198.out)) : gb198 ≠ gb206)); have n9_ := Aside0.mk ((by rw [hg]; exact Nat.ne_of_gt (blk_lt (g := gb198) (o := .cells #[.slice A0_0 l0_0.length c0_0, .slice A0_1 l0_1.length c0_1] 40 (0, 0)) (by (with_reducible repeat (first | refine blk_drewN ?_ _ | refine blk_drew ?_ | refine blk_alloc ?_ _)); exact BK198.out)) : gb206 ≠ gb198)); have n10_ := Aside0.mk ((by rw [hg]; exact Nat.ne_of_lt (blk_lt (g := gb199) (o := .cells #[.slice none 0 0, .slice none 0 0] 40 (0, 0)) (by (with_reducible repeat (first | refine blk_drewN ?_ _ | refine blk_drew ?_ | refine blk_alloc ?_ _)); exact BK199.out)) : gb199 ≠ gb206)); have n11_ := Aside0.mk ((by rw [hg]; exact Nat.ne_of_gt (blk_lt (g := gb199) (o := .cells #[.slice none 0 0, .slice none 0 0] 40 (0, 0)) (by (with_reducible repeat (first | refine blk_drewN ?_ _ | refine blk_drew ?_ | refine blk_alloc ?_ _)); exact BK199.out)) : gb206 ≠ gb199)); clear HO202; clear HO205; clear BK198; clear BK199; clear HB; have HO202 := n0_; have HO205 := n1_; have BK198 := n2_; have BK199 := n3_; have HB := n4_; have BK206 := n5_; have GW206 := n6_; have GE206 := n7_; have NB198_206 := n8_; have NB206_198 := n9_; have NB199_206 := n10_; have NB206_199 := n11_; clear n0_ n1_ n2_ n3_ n4_ n5_ n6_ n7_ n8_ n9_ n10_ n11_; clear hb hbox hg; obtain ⟨Ao10, co10, eo10⟩ := Kd.R_slice HO202.out; subst eo10; have hnb11 := NB206_198.out; have hnc11 := NB198_206.out; have hnb12 := NB206_199.out; have hnc12 := NB199_206.out; have hcz13_0 : w9.cell? ⟨gb206, 0, none⟩ = some (.slice none 0 0) := (blk_cell BK206.out 0).trans rfl; have hcz13_1 : w9.cell? ⟨gb206, 1, none⟩ = some (.slice none 0 0) := (blk_cell BK206.out 1).trans rfl; have hfz13_0 := blk_frozen BK206.out 0; have hfz13_1 := blk_frozen BK206.out 1; obtain ⟨Ao14, co14, eo14⟩ := Kd.S_slice HO205.out; subst eo14))
 go_loopg [1, 7] k (fun kq v1 v7 w' => ∃ (x1_1 : Int) (x7_1 : Int) (x207000_1 : List Int) (x207001_1 : List (List Int)) (u207000 : Value) (u207001 : Value), v1 = .int .i64 x1_1 ∧ v7 = .int .i64 x7_1 ∧ Aside0 (spec_l9Insert.l0 kq x1_1 x7_1 x207000_1 x207001_1 = some (r1, r2, r3)) ∧ Aside0 (kq ≤ k) ∧ Aside0 (Kd.R (Kd.int .i64) 3 w' w.heap.size (fun _ => True) u207000 x207000_1) ∧ Aside0 (Kd.S (Kd.slice 3 (Kd.int .i64)) 22 w' w.heap.size (fun k_ => some k_ ≠ (u207000 : Value).ownBlock) u207001 x207001_1) ∧ Aside0 (w'.heap[gb198]? = some (.cells #[(.slice A0_0 l0_0.length c0_0), (.slice A0_1 l0_1.length c0_1)] 40 (0, 0))) ∧ Aside0 (w'.heap[gb199]? = some (.cells #[(.slice none 0 0), (.slice none 0 0)] 40 (0, 0))) ∧ Aside0 (w'.heap[gb206]? = some (.cells #[u207000, u207001] 40 (0, 0))) ∧ Aside0 (Below w.heap.size w w'))
 case atStart => exact ⟨(a1), (0), (t200), (t203), (.slice Ao10 t200.length co10), (.slice Ao14 t203.length co14), (by first | rfl | (simp; done) | (simp [*]; done)), (by first | rfl | (simp; done) | (simp [*]; done)), H', ⟨Nat.le_refl _⟩, ⟨by (with_reducible repeat (first | apply Kd.R_alloc | apply Kd.R_drewN | apply Kd.R_drew)); exact Kd.R_mono (Kd.R_far (p := ⟨gb206, 1, none⟩) (Kd.R_far (p := ⟨gb206, 0, none⟩) (Kd.R_types HO202.out BK206.out (by decide)) (fun _ hk => hk.2) (.slice Ao10 t200.length co10)) (fun _ hk => hk.2) (.slice Ao14 t203.length co14)) (fun _ hk => trivial)⟩, ⟨by (with_reducible repeat (first | apply Kd.S_alloc | apply Kd.S_drewN | apply Kd.S_drew)); exact Kd.S_mono (Kd.S_far (p := ⟨gb206, 1, none⟩) (Kd.S_far (p := ⟨gb206, 0, none⟩) (Kd.S_types HO205.out BK206.out (by decide)) (fun _ hk => hk.2) (.slice Ao10 t200.length co10)) (fun _ hk => hk.2) (.slice Ao14 t203.length co14)) (fun _ hk => hk.1)⟩, ⟨by (with_reducible repeat (first | refine blk_drewN ?_ _ | refine blk_drew ?_ | refine blk_alloc ?_ _)); refine blk_far ?_ NB198_206.out _; (with_reducible repeat (first | refine blk_drewN ?_ _ | refine blk_drew ?_ | refine blk_alloc ?_ _)); refine blk_far ?_ NB198_206.out _; (with_reducible repeat (first | refine blk_drewN ?_ _ | refine blk_drew ?_ | refine blk_alloc ?_ _)); exact BK198.out⟩, ⟨by (with_reducible repeat (first | refine blk_drewN ?_ _ | refine blk_drew ?_ | refine blk_alloc ?_ _)); refine blk_far ?_ NB199_206.out _; (with_reducible repeat (first | refine blk_drewN ?_ _ | refine blk_drew ?_ | refine blk_alloc ?_ _)); refine blk_far ?_ NB199_206.out _; (with_reducible repeat (first | refine blk_drewN ?_ _ | refine blk_drew ?_ | refine blk_alloc ?_ _)); exact BK199.out⟩, ⟨by (with_reducible repeat (first | refine blk_drewN ?_ _ | refine blk_drew ?_ | refine blk_alloc ?_ _)); refine blk_put (cs := #[.slice Ao10 t200.length co10, .slice none 0 0]) ?_ 1 _ rfl; (with_reducible repeat (first | refine blk_drewN ?_ _ | refine blk_drew ?_ | refine blk_alloc ?_ _)); refine blk_put (cs := #[.slice none 0 0, .slice none 0 0]) ?_ 0 _ rfl; (with_reducible repeat (first | refine blk_drewN ?_ _ | refine blk_drew ?_ | refine blk_alloc ?_ _)); exact BK206.out⟩, ⟨by repeat (first | (with_reducible first | exact HB.out | apply below_alloc | apply pw_below_drewN | apply below_drew1 | refine below_set ?_ GE198.out | refine below_set ?_ GE199.out | refine below_set ?_ GE206.out) | exact HB.out)⟩⟩
 case round =>
  clear H'
  try clear c1
  try clear p2
  try clear c6
  try clear c7
  try clear c11
  try clear c12
  try clear hcz13_0
  try clear hcz13_1
  try clear hcz7_0
  try clear hcz7_1
  try clear hfz13_0
  try clear hfz13_1
  try clear hfz7_0
  try clear hfz7_1
  obtain ⟨x1_1, x7_1, x207000_1, x207001_1, u207000, u207001, rfl, rfl, HA, HK1, HO_207000, HO_207001, BK198, BK199, BK206, HB⟩ := hrel
  cases gk with
  | zero => exact absurd HA.out (by simp [spec_l9Insert.l0])
  | succ k1 =>
   have H := HA.out
   clear HA
   simp only [spec_l9Insert.l0] at H
   by_cases c15 : x7_1 < (x207001_1.length : Int)
   ·rw [if_pos c15] at H
    have c15b0 : decide (x7_1 < (x207001_1.length : Int)) = true := decide_eq_true c15
    clear c15
    have H' := Aside0.mk H
    clear H
    have hnb16 := NB206_198.out
    have hnc16 := NB198_206.out
    have hnb17 := NB206_199.out
    have hnc17 := NB199_206.out
    have hcz18_0 : wr.cell? ⟨gb206, 0, none⟩ = some (u207000) := (blk_cell BK206.out 0).trans rfl
    have hcz18_1 : wr.cell? ⟨gb206, 1, none⟩ = some (u207001) := (blk_cell BK206.out 1).trans rfl
    have hfz18_0 := blk_frozen BK206.out 0
    have hfz18_1 := blk_frozen BK206.out 1
    obtain ⟨Ao19, co19, eo19⟩ := Kd.S_slice HO_207001.out
    subst eo19
    go_wp2
    go_loopg [8] k1 (fun kq v8 w' => ∃ (x8_2 : Int), v8 = .int .i64 x8_2 ∧ Aside0 (spec_l9Insert.l1 kq x1_1 x7_1 x8_2 x207000_1 x207001_1 = some (r1, r2, r3)) ∧ Aside0 (kq ≤ k1) ∧ Aside0 (Kd.R (Kd.int .i64) 3 w' w.heap.size (fun _ => True) u207000 x207000_1) ∧ Aside0 (Kd.S (Kd.slice 3 (Kd.int .i64)) 22 w' w.heap.size (fun k_ => some k_ ≠ (u207000 : Value).ownBlock) (.slice Ao19 x207001_1.length co19) x207001_1) ∧ Aside0 (w'.heap[gb198]? = some (.cells #[(.slice A0_0 l0_0.length c0_0), (.slice A0_1 l0_1.length c0_1)] 40 (0, 0))) ∧ Aside0 (w'.heap[gb199]? = some (.cells #[(.slice none 0 0), (.slice none 0 0)] 40 (0, 0))) ∧ Aside0 (w'.heap[gb206]? = some (.cells #[u207000, (.slice Ao19 x207001_1.length co19)] 40 (0, 0))) ∧ Aside0 (Below w.heap.size w w'))
    case atStart => exact ⟨(0), (by first | rfl | (simp; done) | (simp [*]; done)), H', ⟨Nat.le_refl _⟩, ⟨by (with_reducible repeat (first | apply Kd.R_alloc | apply Kd.R_drewN | apply Kd.R_drew)); exact HO_207000.out⟩, ⟨by (with_reducible repeat (first | apply Kd.S_alloc | apply Kd.S_drewN | apply Kd.S_drew)); exact HO_207001.out⟩, ⟨by (with_reducible repeat (first | refine blk_drewN ?_ _ | refine blk_drew ?_ | refine blk_alloc ?_ _)); exact BK198.out⟩, ⟨by (with_reducible repeat (first | refine blk_drewN ?_ _ | refine blk_drew ?_ | refine blk_alloc ?_ _)); exact BK199.out⟩, ⟨by (with_reducible repeat (first | refine blk_drewN ?_ _ | refine blk_drew ?_ | refine blk_alloc ?_ _)); exact BK206.out⟩, ⟨by repeat (first | (with_reducible first | exact HB.out | apply below_alloc | apply pw_below_drewN | apply below_drew1 | refine below_set ?_ GE198.out | refine below_set ?_ GE199.out | refine below_set ?_ GE206.out) | exact HB.out)⟩⟩
    case round =>
     clear H'
     try clear c1
     try clear p2
     try clear c6
     try clear c7
     try clear c11
     try clear c12
     try clear c15
     try clear c15b0
     try clear c16
     try clear c17
     try clear hcz13_0
     try clear hcz13_1
     try clear hcz18_0
     try clear hcz18_1
     try clear hcz7_0
     try clear hcz7_1
     try clear hfz13_0
     try clear hfz13_1
     try clear hfz18_0
     try clear hfz18_1
     try clear hfz7_0
     try clear hfz7_1
     try clear p2
     obtain ⟨x8_2, rfl, HA, HK2, HO_207000, HO_207001, BK198, BK199, BK206, HB⟩ := hrel
     cases gk with
     | zero => exact absurd HA.out (by simp [spec_l9Insert.l1])
     | succ k2 =>
      have H := HA.out
      clear HA
      simp only [spec_l9Insert.l1] at H
      by_cases c20 : 0 ≤ x7_1
      ·rw [if_pos c20] at H
       have c20b0 : decide (0 ≤ x7_1) = true := decide_eq_true c20
       clear c20
       by_cases c21 : x7_1 < (x207001_1.length : Int)
       ·rw [if_pos c21] at H
        have c21b0 : decide (x7_1 < (x207001_1.length : Int)) = true := decide_eq_true c21
        clear c21
        by_cases c22 : x8_2 < ((rd_L1 x207001_1 x7_1).length : Int)
        ·rw [if_pos c22] at H
         have c22b0 : decide (x8_2 < ((rd_L1 x207001_1 x7_1).length : Int)) = true := decide_eq_true c22
         clear c22
         by_cases c23 : 0 ≤ x8_2
         ·rw [if_pos c23] at H
          have c23b0 : decide (0 ≤ x8_2) = true := decide_eq_true c23
          clear c23
          by_cases c24 : (rd (rd_L1 x207001_1 x7_1) x8_2) ≤ x1_1
          ·rw [if_pos c24] at H
           have c24b0 : decide ((rd (rd_L1 x207001_1 x7_1) x8_2) ≤ x1_1) = true := decide_eq_true c24
           clear c24
           have H' := Aside0.mk H
           clear H
           have hnb25 := NB206_198.out
           have hnc25 := NB198_206.out
           have hnb26 := NB206_199.out
           have hnc26 := NB199_206.out
           have hcz27_0 : wr.cell? ⟨gb206, 0, none⟩ = some (u207000) := (blk_cell BK206.out 0).trans rfl
           have hcz27_1 : wr.cell? ⟨gb206, 1, none⟩ = some (.slice Ao19 x207001_1.length co19) := (blk_cell BK206.out 1).trans rfl
           have hfz27_0 := blk_frozen BK206.out 0
           have hfz27_1 := blk_frozen BK206.out 1
           have p213 : 0 ≤ (x7_1 : Int) := of_decide_eq_true (by first | (with_reducible assumption) | assumption)
           have q213 : x7_1 < (x207001_1.length : Int) := of_decide_eq_true (by first | (with_reducible assumption) | assumption)
           obtain ⟨ad213, A213_0, c213_0, e213, hx213_0, hl213_0, hi213_0⟩ := at_L1 (Kd.S_reads' HO_207001.out).2.2 x7_1 p213 q213
           cases e213
           obtain ⟨ce213, hce213, hMe213, hcc213⟩ := Kd.S_get HO_207001.out [] x7_1 p213 (by first | exact q213 | exact of_decide_eq_true (by first | (with_reducible assumption) | assumption) | (have e_ := (Kd.S_reads' HO_207001.out).1; omega))
           obtain ⟨ve213_0, rfl, ge213_0⟩ := hMe213
           have hv213_0 := hcc213 0 _ rfl
           rw [Nat.add_zero, show ((Kd.slice 3 (Kd.int .i64))).sz = 1 from rfl, Nat.mul_one] at hv213_0
           replace hv213_0 := Option.some.inj (hv213_0.symm.trans hx213_0)
           rw [hv213_0] at ge213_0
           have HL213_0 := Aside0.mk (show Kd.R (Kd.int .i64) 3 _ _ _ _ (rd_L1 x207001_1 x7_1) from ge213_0)
           clear hv213_0 ge213_0
           have HX213_0 := Aside0.mk hx213_0
           clear hcc213 hce213
           have HR213_0 := Aside0.mk hi213_0
           have HC213_0 := Aside0.mk hl213_0
           clear hi213_0 hl213_0
           replace p213 := eq_true p213
           replace q213 := eq_true q213
           have p214 : 0 ≤ (x7_1 : Int) := of_decide_eq_true (by first | (with_reducible assumption) | assumption)
           have q214 : x7_1 < (x207001_1.length : Int) := of_decide_eq_true (by first | (with_reducible assumption) | assumption)
           obtain ⟨ad214, A214_0, c214_0, e214, hx214_0, hl214_0, hi214_0⟩ := at_L1 (Kd.S_reads' HO_207001.out).2.2 x7_1 p214 q214
           obtain rfl : ad213 = ad214 := (by injection e214)
           obtain ⟨ce214, hce214, hMe214, hcc214⟩ := Kd.S_get HO_207001.out [] x7_1 p214 (by first | exact q214 | exact of_decide_eq_true (by first | (with_reducible assumption) | assumption) | (have e_ := (Kd.S_reads' HO_207001.out).1; omega))
           obtain ⟨ve214_0, rfl, ge214_0⟩ := hMe214
           have hv214_0 := hcc214 0 _ rfl
           rw [Nat.add_zero, show ((Kd.slice 3 (Kd.int .i64))).sz = 1 from rfl, Nat.mul_one] at hv214_0
           replace hv214_0 := Option.some.inj (hv214_0.symm.trans hx214_0)
           rw [hv214_0] at ge214_0
           have HL214_0 := Aside0.mk (show Kd.R (Kd.int .i64) 3 _ _ _ _ (rd_L1 x207001_1 x7_1) from ge214_0)
           clear hv214_0 ge214_0
           have HX214_0 := Aside0.mk hx214_0
           clear hcc214 hce214
           have HR214_0 := Aside0.mk hi214_0
           have HC214_0 := Aside0.mk hl214_0
           clear hi214_0 hl214_0
           replace p214 := eq_true p214
           replace q214 := eq_true q214
           have ea_ := Option.some.inj (hx213_0.symm.trans hx214_0)
           injection ea_ with ea_ en_ ec_
           subst ea_
           subst ec_
           clear en_
           have p215 : 0 ≤ (x8_2 : Int) := of_decide_eq_true (by first | (with_reducible assumption) | assumption)
           have q215 : x8_2 < ((rd_L1 x207001_1 x7_1).length : Int) := of_decide_eq_true (by first | (with_reducible assumption) | assumption)
           obtain ⟨ad215, e215, hx215_0⟩ := Kd.at_int (by repeat (first | (with_reducible exact HR214_0.out) | (with_reducible refine Kd.C_alloc ?_ _) | (with_reducible refine Kd.C_drewN ?_ _) | (with_reducible refine Kd.C_drew ?_) | exact HR214_0.out)) x8_2 p215 q215
           cases e215
           replace p215 := eq_true p215
           replace q215 := eq_true q215
           go_wp2
           go_roundg k2
           case measure => have := HK1.out; have := HK2.out; omega
           case rel => exact ⟨(wrap64 (x8_2 + 1)), (by first | rfl | (simp; done) | (simp [*]; done)), H', ⟨by have := HK1.out; have := HK2.out; omega⟩, ⟨by (with_reducible repeat (first | apply Kd.R_alloc | apply Kd.R_drewN | apply Kd.R_drew)); exact HO_207000.out⟩, ⟨by (with_reducible repeat (first | apply Kd.S_alloc | apply Kd.S_drewN | apply Kd.S_drew)); exact HO_207001.out⟩, ⟨by (with_reducible repeat (first | refine blk_drewN ?_ _ | refine blk_drew ?_ | refine blk_alloc ?_ _)); exact BK198.out⟩, ⟨by (with_reducible repeat (first | refine blk_drewN ?_ _ | refine blk_drew ?_ | refine blk_alloc ?_ _)); exact BK199.out⟩, ⟨by (with_reducible repeat (first | refine blk_drewN ?_ _ | refine blk_drew ?_ | refine blk_alloc ?_ _)); exact BK206.out⟩, ⟨by repeat (first | (with_reducible first | exact HB.out | apply below_alloc | apply pw_below_drewN | apply below_drew1 | refine below_set ?_ GE198.out | refine below_set ?_ GE199.out | refine below_set ?_ GE206.out) | exact HB.out)⟩⟩
          ·rw [if_neg c24] at H
           have c24b0 : decide ((rd (rd_L1 x207001_1 x7_1) x8_2) ≤ x1_1) = false := decide_eq_false c24
           clear c24
           by_cases c28 : x8_2 = ((rd_L1 x207001_1 x7_1).length : Int)
           ·rw [if_pos c28] at H
            have c28b0 : (x8_2 == ((rd_L1 x207001_1 x7_1).length : Int)) = true := beq_iff_eq.mpr c28
            have c28b1 : (x8_2 != ((rd_L1 x207001_1 x7_1).length : Int)) = false := bne_eq_false_iff_eq.mpr c28
            clear c28
            by_cases c29 : (rd_L1 x207001_1 x7_1).length < 17592186044416
            ·rw [if_pos c29] at H
             have LMc29 := Aside0.mk c29
             clear c29
             obtain ⟨y218, hy218⟩ : ∃ y_ : List Int, y_ = ((rd_L1 x207001_1 x7_1) ++ [x1_1]) := ⟨_, rfl⟩
             replace H : (some (x207000_1, (x207001_1.set (x7_1 : Int).toNat y218), x7_1)) = some (r1, r2, r3) := by first | (rw [hy218]; with_reducible exact H) | (have H2_ := (Option.bind_some _ _).symm.trans H; rw [hy218]; with_reducible exact H2_) | (have H2_ := (Option.bind_some _ _).symm.trans H; with_reducible exact H2_) | with_reducible exact H | (rw [hy218]; exact H) | exact H
             have Ny218 := Aside0.mk hy218
             clear hy218
             obtain ⟨y221, hy221⟩ : ∃ y_ : List (List Int), y_ = (x207001_1.set (x7_1 : Int).toNat y218) := ⟨_, rfl⟩
             replace H : (some (x207000_1, y221, x7_1)) = some (r1, r2, r3) := by first | (rw [hy221]; with_reducible exact H) | (have H2_ := (Option.bind_some _ _).symm.trans H; rw [hy221]; with_reducible exact H2_) | (have H2_ := (Option.bind_some _ _).symm.trans H; with_reducible exact H2_) | with_reducible exact H | (rw [hy221]; exact H) | exact H
             have Ny221 := Aside0.mk hy221
             clear hy221
             simp only [Option.some.injEq, Prod.mk.injEq] at H
             obtain ⟨rfl, rfl, rfl⟩ := H
             have hnb31 := NB206_198.out
             have hnc31 := NB198_206.out
             have hnb32 := NB206_199.out
             have hnc32 := NB199_206.out
             have hcz33_0 : wr.cell? ⟨gb206, 0, none⟩ = some (u207000) := (blk_cell BK206.out 0).trans rfl
             have hcz33_1 : wr.cell? ⟨gb206, 1, none⟩ = some (.slice Ao19 x207001_1.length co19) := (blk_cell BK206.out 1).trans rfl
             have hfz33_0 := blk_frozen BK206.out 0
             have hfz33_1 := blk_frozen BK206.out 1
             have p213 : 0 ≤ (x7_1 : Int) := of_decide_eq_true (by first | (with_reducible assumption) | assumption)
             have q213 : x7_1 < (x207001_1.length : Int) := of_decide_eq_true (by first | (with_reducible assumption) | assumption)
             obtain ⟨ad213, A213_0, c213_0, e213, hx213_0, hl213_0, hi213_0⟩ := at_L1 (Kd.S_reads' HO_207001.out).2.2 x7_1 p213 q213
             cases e213
             obtain ⟨ce213, hce213, hMe213, hcc213⟩ := Kd.S_get HO_207001.out [] x7_1 p213 (by first | exact q213 | exact of_decide_eq_true (by first | (with_reducible assumption) | assumption) | (have e_ := (Kd.S_reads' HO_207001.out).1; omega))
             obtain ⟨ve213_0, rfl, ge213_0⟩ := hMe213
             have hv213_0 := hcc213 0 _ rfl
             rw [Nat.add_zero, show ((Kd.slice 3 (Kd.int .i64))).sz = 1 from rfl, Nat.mul_one] at hv213_0
             replace hv213_0 := Option.some.inj (hv213_0.symm.trans hx213_0)
             rw [hv213_0] at ge213_0
             have HL213_0 := Aside0.mk (show Kd.R (Kd.int .i64) 3 _ _ _ _ (rd_L1 x207001_1 x7_1) from ge213_0)
             clear hv213_0 ge213_0
             have HX213_0 := Aside0.mk hx213_0
             clear hcc213 hce213
             have HR213_0 := Aside0.mk hi213_0
             have HC213_0 := Aside0.mk hl213_0
             clear hi213_0 hl213_0
             replace p213 := eq_true p213
             replace q213 := eq_true q213
             have p214 : 0 ≤ (x7_1 : Int) := of_decide_eq_true (by first | (with_reducible assumption) | assumption)
             have q214 : x7_1 < (x207001_1.length : Int) := of_decide_eq_true (by first | (with_reducible assumption) | assumption)
             obtain ⟨ad214, A214_0, c214_0, e214, hx214_0, hl214_0, hi214_0⟩ := at_L1 (Kd.S_reads' HO_207001.out).2.2 x7_1 p214 q214
             obtain rfl : ad213 = ad214 := (by injection e214)
             obtain ⟨ce214, hce214, hMe214, hcc214⟩ := Kd.S_get HO_207001.out [] x7_1 p214 (by first | exact q214 | exact of_decide_eq_true (by first | (with_reducible assumption) | assumption) | (have e_ := (Kd.S_reads' HO_207001.out).1; omega))
             obtain ⟨ve214_0, rfl, ge214_0⟩ := hMe214
             have hv214_0 := hcc214 0 _ rfl
             rw [Nat.add_zero, show ((Kd.slice 3 (Kd.int .i64))).sz = 1 from rfl, Nat.mul_one] at hv214_0
             replace hv214_0 := Option.some.inj (hv214_0.symm.trans hx214_0)
             rw [hv214_0] at ge214_0
             have HL214_0 := Aside0.mk (show Kd.R (Kd.int .i64) 3 _ _ _ _ (rd_L1 x207001_1 x7_1) from ge214_0)
             clear hv214_0 ge214_0
             have HX214_0 := Aside0.mk hx214_0
             clear hcc214 hce214
             have HR214_0 := Aside0.mk hi214_0
             have HC214_0 := Aside0.mk hl214_0
             clear hi214_0 hl214_0
             replace p214 := eq_true p214
             replace q214 := eq_true q214
             have ea_ := Option.some.inj (hx213_0.symm.trans hx214_0)
             injection ea_ with ea_ en_ ec_
             subst ea_
             subst ec_
             clear en_
             have p215 : 0 ≤ (x8_2 : Int) := of_decide_eq_true (by first | (with_reducible assumption) | assumption)
             have q215 : x8_2 < ((rd_L1 x207001_1 x7_1).length : Int) := of_decide_eq_true (by first | (with_reducible assumption) | assumption)
             obtain ⟨ad215, e215, hx215_0⟩ := Kd.at_int (by repeat (first | (with_reducible exact HR214_0.out) | (with_reducible refine Kd.C_alloc ?_ _) | (with_reducible refine Kd.C_drewN ?_ _) | (with_reducible refine Kd.C_drew ?_) | exact HR214_0.out)) x8_2 p215 q215
             cases e215
             replace p215 := eq_true p215
             replace q215 := eq_true q215
             have p216 : 0 ≤ (x7_1 : Int) := of_decide_eq_true (by first | (with_reducible assumption) | assumption)
             have q216 : x7_1 < (x207001_1.length : Int) := of_decide_eq_true (by first | (with_reducible assumption) | assumption)
             obtain ⟨ad216, A216_0, c216_0, e216, hx216_0, hl216_0, hi216_0⟩ := at_L1 (Kd.S_reads' HO_207001.out).2.2 x7_1 p216 q216
             obtain rfl : ad213 = ad216 := (by injection e216)
             obtain ⟨ce216, hce216, hMe216, hcc216⟩ := Kd.S_get HO_207001.out [] x7_1 p216 (by first | exact q216 | exact of_decide_eq_true (by first | (with_reducible assumption) | assumption) | (have e_ := (Kd.S_reads' HO_207001.out).1; omega))
             obtain ⟨ve216_0, rfl, ge216_0⟩ := hMe216
             have hv216_0 := hcc216 0 _ rfl
             rw [Nat.add_zero, show ((Kd.slice 3 (Kd.int .i64))).sz = 1 from rfl, Nat.mul_one] at hv216_0
             replace hv216_0 := Option.some.inj (hv216_0.symm.trans hx216_0)
             rw [hv216_0] at ge216_0
             have HL216_0 := Aside0.mk (show Kd.R (Kd.int .i64) 3 _ _ _ _ (rd_L1 x207001_1 x7_1) from ge216_0)
             clear hv216_0 ge216_0
             have HX216_0 := Aside0.mk hx216_0
             clear hcc216 hce216
             have HR216_0 := Aside0.mk hi216_0
             have HC216_0 := Aside0.mk hl216_0
             clear hi216_0 hl216_0
             replace p216 := eq_true p216
             replace q216 := eq_true q216
             have ea_ := Option.some.inj (hx213_0.symm.trans hx216_0)
             injection ea_ with ea_ en_ ec_
             subst ea_
             subst ec_
             clear en_
             try go_wp2
             have n0_ := Aside0.mk (Kd.R_drew HO_207000.out)
             have n1_ := Aside0.mk (Kd.S_drew HO_207001.out)
             have n2_ := Aside0.mk (Kd.R_drew HL213_0.out)
             have n3_ := Aside0.mk (Kd.R_drew HL214_0.out)
             have n4_ := Aside0.mk (Kd.R_drew HL216_0.out)
             have n5_ := Aside0.mk (blk_drew BK198.out)
             have n6_ := Aside0.mk (blk_drew BK199.out)
             have n7_ := Aside0.mk (blk_drew BK206.out)
             have n8_ := Aside0.mk (Kd.C_drew HR213_0.out)
             have n9_ := Aside0.mk (Kd.C_drew HR214_0.out)
             have n10_ := Aside0.mk (Kd.C_drew HR216_0.out)
             have n11_ := Aside0.mk (below_drew1 HB.out)
             clear HO_207000
             clear HO_207001
             clear HL213_0
             clear HL214_0
             clear HL216_0
             clear BK198
             clear BK199
             clear BK206
             clear HR213_0
             clear HR214_0
             clear HR216_0
             clear HB
             have HO_207000 := n0_
             have HO_207001 := n1_
             have HL213_0 := n2_
             have HL214_0 := n3_
             have HL216_0 := n4_
             have BK198 := n5_
             have BK199 := n6_
             have BK206 := n7_
             have HR213_0 := n8_
             have HR214_0 := n9_
             have HR216_0 := n10_
             have HB := n11_
             clear n0_ n1_ n2_ n3_ n4_ n5_ n6_ n7_ n8_ n9_ n10_ n11_
             have p217 : 0 ≤ (x7_1 : Int) := of_decide_eq_true (by first | (with_reducible assumption) | assumption)
             have q217 : x7_1 < (x207001_1.length : Int) := of_decide_eq_true (by first | (with_reducible assumption) | assumption)
             obtain ⟨ad217, A217_0, c217_0, e217, hx217_0, hl217_0, hi217_0⟩ := at_L1 (Kd.S_reads' HO_207001.out).2.2 x7_1 p217 q217
             obtain rfl : ad213 = ad217 := (by injection e217)
             obtain ⟨ce217, hce217, hMe217, hcc217⟩ := Kd.S_get HO_207001.out [] x7_1 p217 (by first | exact q217 | exact of_decide_eq_true (by first | (with_reducible assumption) | assumption) | (have e_ := (Kd.S_reads' HO_207001.out).1; omega))
             obtain ⟨ve217_0, rfl, ge217_0⟩ := hMe217
             have hv217_0 := hcc217 0 _ rfl
             rw [Nat.add_zero, show ((Kd.slice 3 (Kd.int .i64))).sz = 1 from rfl, Nat.mul_one] at hv217_0
             replace hv217_0 := Option.some.inj (hv217_0.symm.trans hx217_0)
             rw [hv217_0] at ge217_0
             have HL217_0 := Aside0.mk (show Kd.R (Kd.int .i64) 3 _ _ _ _ (rd_L1 x207001_1 x7_1) from ge217_0)
             clear hv217_0 ge217_0
             have HX217_0 := Aside0.mk hx217_0
             clear hcc217 hce217
             have HR217_0 := Aside0.mk hi217_0
             have HC217_0 := Aside0.mk hl217_0
             clear hi217_0 hl217_0
             replace p217 := eq_true p217
             replace q217 := eq_true q217
             obtain ⟨go35, co35, eo35, gb35, gl35, cl35, HG35⟩ := Kd.S_form HO_207001.out (by have h_ : (x7_1 : Int) < ((x207001_1.length : Int) : Int) := of_decide_eq_true (by first | (with_reducible assumption) | assumption); have h2_ : 0 ≤ (x7_1 : Int) := (of_decide_eq_true (by first | (with_reducible assumption) | assumption)); omega)
             (first | cases eo35 | (injection eo35 with ea_ en_ ec_; (first | subst ea_ | (injection ea_ with ea_; subst ea_)); subst ec_; clear en_))
             have GB35 := Aside0.mk gb35
             have GG35 := Aside0.mk HG35
             clear gb35 gl35 HG35
             (first | simp only [add_plain] at hx213_0 | skip)
             (first | simp only [add_plain] at hx214_0 | skip)
             (first | simp only [add_plain] at hx216_0 | skip)
             (first | simp only [add_plain] at hx217_0 | skip)
             obtain ⟨oki35, ce35, hcl35, hM35, hcc35, _, _, hH35⟩ := Kd.S_elem HO_207001.out [] (x7_1 : Int) (of_decide_eq_true (by first | (with_reducible assumption) | assumption)) (by have h_ : (x7_1 : Int) < ((x207001_1.length : Int) : Int) := of_decide_eq_true (by first | (with_reducible assumption) | assumption); first | exact h_ | (have e_ := (Kd.S_reads' HO_207001.out).1; omega) | simpa using h_)
             obtain ⟨ve35_0, rfl, ge35_0⟩ := hM35
             have hv35 := hcc35 0 _ rfl
             have hX35 := HX217_0.out
             (try simp only [add_plain] at hX35)
             (try simp only [Nat.add_zero] at hv35)
             (try rw [show ((Kd.slice 3 (Kd.int .i64))).sz = 1 from rfl, Nat.mul_one] at hv35)
             replace hv35 := Option.some.inj (hv35.symm.trans hX35)
             subst hv35
             clear hX35 hcc35 hcl35
             have UU35 := Aside0.mk (show Kd.R (Kd.int .i64) 3 _ w.heap.size oki35 (.slice A217_0 (rd_L1 x207001_1 x7_1).length c217_0) (rd_L1 x207001_1 x7_1) from ge35_0)
             have HH35 := Aside0.mk hH35
             have HN35 := Aside0.mk (Kd.S_reads' HO_207001.out).1
             clear hH35 ge35_0
             refine start_ (n := 13) (S := fun w' => w'.cell? ⟨gb206, 0, none⟩ = some (u207000) ∧ w'.cell? ⟨gb206, 1, none⟩ = some (.slice (some ⟨go35, 0, none⟩) x207001_1.length co19) ∧ w'.cell? ⟨go35, (x7_1).toNat, none⟩ = some (.slice A217_0 (rd_L1 x207001_1 x7_1).length c217_0)) (ds := [12]) zB5_0 (by kernel_rfl) rfl rfl ⟨(blk_cell BK206.out 0).trans rfl, (blk_cell BK206.out 1).trans rfl, hx217_0⟩ (fun hHeld => ?_); refine with_tabW spec_l9Insert.tab9 spec_l9Insert.bits9 (fun HT_ HW_ => ?_)
             generalize wr.drew = w34 at HO_207000 HO_207001 HL213_0 HL214_0 HL216_0 BK198 BK199 BK206 HR213_0 HR214_0 HR216_0 HB GG35 HH35 HL217_0 HR217_0 HX217_0 UU35 hx213_0 hx214_0 hx216_0 hx217_0 hHeld ⊢
             refine zP (i := 0) (N := some 49) zB5_1 (any_of HT_.out (by kernel_rfl)) ?_
             refine zP (i := 2) (N := some 51) zB5_2 (any_of HT_.out (by kernel_rfl)) ?_
             refine zP (i := 3) (N := some 52) zB5_3 (any_of HT_.out (by kernel_rfl)) ?_
             refine zP (i := 5) (N := some 54) zB5_4 (any_of HT_.out (by kernel_rfl)) ?_
             refine zP (i := 8) (N := some 57) zB5_5 (any_of HT_.out (by kernel_rfl)) ?_
             refine zT3 (i := 1) (N := some 50) zB5_6 (take_ofW HT_.out HW_.out (by kernel_rfl)) hHeld ?_
             refine zT3 (i := 4) (N := some 53) zB5_7 (take_ofW HT_.out HW_.out (by kernel_rfl)) hHeld ?_
             refine zP (i := 6) (N := some 55) zB5_8 (any_of HT_.out (by kernel_rfl)) ?_
             refine zT3 (i := 7) (N := some 56) zB5_9 (take_ofW HT_.out HW_.out (by kernel_rfl)) hHeld ?_
             refine one_ (i := 9) (N := some 58) zB5_10 rfl rfl (one_of HT_.out (by kernel_rfl)) (by decide) (fun K hK => ?_)
             refine value_ (w1 := ?_) (v := ?_) (by rfl) rfl ?_ ?_
             rotate_left 2
             ·go_simp
              constructor
              ·rfl
              ·rfl
             refine hK.out _ _ ⟨(blk_cell (blk_alloc BK206.out _) 0).trans rfl, (blk_cell (blk_alloc BK206.out _) 1).trans rfl, (World.cell?_alloc_lt _ _ _ (World.block_lt_of_cell? _ _ (hHeld.2.2))).trans (hHeld.2.2)⟩ (fun hHeld => ?_)
             clear hK K
             refine norm_ (a' := ?_) ?_ ?_
             rotate_left
             ·show Act.put _ (some 58) _ = _
              simp only [Act.put, List.setIfInBounds_toArray, List.set_cons_zero, List.set_cons_succ, i64_w, i32_w]
              rfl
             refine one_ (i := 10) (N := some 59) zB5_11 rfl rfl (one_of HT_.out (by kernel_rfl)) (by decide) (fun K hK => ?_)
             refine Kd.R_append_step (Kd.int .i64) (w0 := w) w.heap.size (by rfl) (.tmp 56) (.tmp 58) 22 3 (.int .i64 0) 8 rfl Try.underlying22 info3 rfl (by decide) (by omega) (.slice A217_0 (rd_L1 x207001_1 x7_1).length c217_0) (rd_L1 x207001_1 x7_1) x1_1 [.int .i64 x1_1] (fun k_ => oki35 k_ ∨ ((fun k_ => some k_ ≠ (u207000 : Value).ownBlock)) k_ ∧ w34.heap.size ≤ k_) (fun _ => False) rfl rfl ?aP (fun _ hk => hk.elim) ?aF ?aO ?aB ?aS ?aL ?_
             (case aP => exact rfl)
             (case aB => exact (by repeat (first | (with_reducible first | exact HB.out | apply below_alloc | apply pw_below_drewN | apply below_drew1 | refine below_set ?_ GE198.out | refine below_set ?_ GE199.out | refine below_set ?_ GE206.out) | exact HB.out)))
             (case aF => exact (fun k_ hk => .inr ⟨Kd.fresh' (Kd.R_lt (by (with_reducible repeat (first | apply Kd.R_alloc | apply Kd.R_drewN | apply Kd.R_drew)); exact HO_207000.out)) k_ hk, hk⟩))
             (case aO => exact (by (with_reducible repeat (first | apply Kd.R_alloc | apply Kd.R_drewN | apply Kd.R_drew)); exact Kd.R_mono UU35.out (fun _ hk => .inl hk)))
             (case aS => exact (below_size (by repeat (first | (with_reducible first | exact HB.out | apply below_alloc | apply pw_below_drewN | apply below_drew1 | refine below_set ?_ GE198.out | refine below_set ?_ GE199.out | refine below_set ?_ GE206.out) | exact HB.out))))
             (case aL => have := LMc29.out; omega)
             intro v219 w36 ho hb hg hat
             (first | have HS2_ := cell_grown hg (hHeld.2.2) (by first | (rw [add_block]; exact (fun e_ => ((HL217_0.out.1 _ e_.symm).2) rfl)) | (show some (Addr.add _ _).block ≠ _; rw [add_block]; exact (fun e_ => ((HL217_0.out.1 _ e_.symm).2) rfl)) | exact (fun e_ => ((HL217_0.out.1 _ e_.symm).2) rfl)) | have HS2_ := cell_grown hg (cell_unalloc (hHeld.2.2) (by first | (rw [add_block]; exact Kd.S_lt HO_207001.out _ rfl) | (show (Addr.add _ _).block < _; rw [add_block]; exact Kd.S_lt HO_207001.out _ rfl) | exact Kd.S_lt HO_207001.out _ rfl)) (by first | (rw [add_block]; exact (fun e_ => ((HL217_0.out.1 _ e_.symm).2) rfl)) | (show some (Addr.add _ _).block ≠ _; rw [add_block]; exact (fun e_ => ((HL217_0.out.1 _ e_.symm).2) rfl)) | exact (fun e_ => ((HL217_0.out.1 _ e_.symm).2) rfl)))
             rw [← Ny218.out] at ho
             have n0_ := Aside0.mk (Kd.R_grown2 (by (with_reducible repeat (first | apply Kd.R_alloc | apply Kd.R_drewN | apply Kd.R_drew)); exact HO_207000.out) rfl hg (fun k_ e_ => (HL217_0.out.1 k_ e_).1))
             have n1_ := Aside0.mk (blk_grown (g := gb198) (o := .cells #[.slice A0_0 l0_0.length c0_0, .slice A0_1 l0_1.length c0_1] 40 (0, 0)) (by (with_reducible repeat (first | refine blk_drewN ?_ _ | refine blk_drew ?_ | refine blk_alloc ?_ _)); exact BK198.out) hg (Kd.R_ne HL217_0.out BK198.out (by decide)))
             have n2_ := Aside0.mk (blk_grown (g := gb199) (o := .cells #[.slice none 0 0, .slice none 0 0] 40 (0, 0)) (by (with_reducible repeat (first | refine blk_drewN ?_ _ | refine blk_drew ?_ | refine blk_alloc ?_ _)); exact BK199.out) hg (Kd.R_ne HL217_0.out BK199.out (by decide)))
             have n3_ := Aside0.mk (blk_grown (g := gb206) (o := .cells #[u207000, .slice (some ⟨go35, 0, none⟩) x207001_1.length co19] 40 (0, 0)) (by (with_reducible repeat (first | refine blk_drewN ?_ _ | refine blk_drew ?_ | refine blk_alloc ?_ _)); exact BK206.out) hg (Kd.R_ne HL217_0.out BK206.out (by decide)))
             have n4_ := Aside0.mk (hb)
             have n5_ := Aside0.mk (Kd.H_grown (Kd.H_widen (by repeat (first | exact HH35.out | refine Kd.H_alloc ?_ _ | refine Kd.H_drewN ?_ _ | refine Kd.H_drew ?_))) hg (fun k_ e_ => .inl (UU35.out.1 k_ e_)))
             have n6_ := Aside0.mk (ho)
             clear HO_207000
             clear BK198
             clear BK199
             clear BK206
             clear HB
             clear HH35
             clear HO_207001
             clear UU35
             clear HL213_0
             clear HL214_0
             clear HL216_0
             clear HL217_0
             have HO_207000 := n0_
             have BK198 := n1_
             have BK199 := n2_
             have BK206 := n3_
             have HB := n4_
             have HH35 := n5_
             have HO220 := n6_
             clear n0_ n1_ n2_ n3_ n4_ n5_ n6_
             clear ho hb hg hat
             have p30 : 0 ≤ (x7_1 : Int) := of_decide_eq_true (by first | (with_reducible assumption) | assumption)
             have q30 : (x7_1 : Int) < ((x207001_1.length : Int) : Int) := of_decide_eq_true (by first | (with_reducible assumption) | assumption)
             replace p30 := eq_true p30
             replace q30 := eq_true q30
             obtain ⟨Ao39, co39, eo39⟩ := Kd.R_slice HO220.out
             (first | subst eo39 | (injection eo39 with f1_ f2_ f3_; have f4_ := f1_.symm; have f5_ := f3_.symm; clear f1_ f2_ f3_; subst f4_; subst f5_))
             obtain ⟨_, _, hraw37, _, _, hcc37, _⟩ := Kd.H_raw HH35.out (of_decide_eq_true (by first | (with_reducible assumption) | assumption)) (by have h_ : (x7_1 : Int) < ((x207001_1.length : Int) : Int) := of_decide_eq_true (by first | (with_reducible assumption) | assumption); first | exact h_ | (have e_ := (HN35.out); omega) | simpa using h_)
             obtain ⟨_, hfr37⟩ := Kd.H_at HH35.out (of_decide_eq_true (by first | (with_reducible assumption) | assumption)) (by have h_ : (x7_1 : Int) < ((x207001_1.length : Int) : Int) := of_decide_eq_true (by first | (with_reducible assumption) | assumption); first | exact h_ | (have e_ := (HN35.out); omega) | simpa using h_)
             have hx37_0 := hcc37 0 _ rfl
             have hf37_0 := hfr37 0
             (try simp only [Nat.add_zero] at hx37_0 hf37_0)
             (try rw [show ((Kd.slice 3 (Kd.int .i64))).sz = 1 from rfl, Nat.mul_one] at hx37_0)
             (try rw [show ((Kd.slice 3 (Kd.int .i64))).sz = 1 from rfl, Nat.mul_one] at hf37_0)
             have HP37 := Kd.S_seg0 HH35.out (of_decide_eq_true (by first | (with_reducible assumption) | assumption)) (by have h_ : (x7_1 : Int) < ((x207001_1.length : Int) : Int) := of_decide_eq_true (by first | (with_reducible assumption) | assumption); first | exact h_ | (have e_ := (HN35.out); omega) | simpa using h_) (seg := [.slice Ao39 y218.length co39]) (j := 0) (show 1 ≤ 1 from by decide) (x' := y218) (Kd.M_row HO220.out) (fun _ hk => hk)
             (try simp only [show ((Kd.slice 3 (Kd.int .i64))).sz = 1 from rfl, Nat.mul_one, Nat.add_zero] at HP37)
             clear hcc37 hfr37
             have HNB198_go35 := Aside0.mk (show gb198 ≠ go35 from by have h_ := Kd.R_ne hraw37 BK198.out (by decide); intro e_; exact h_ (by rw [e_]; rfl))
             have HNB199_go35 := Aside0.mk (show gb199 ≠ go35 from by have h_ := Kd.R_ne hraw37 BK199.out (by decide); intro e_; exact h_ (by rw [e_]; rfl))
             have HNB206_go35 := Aside0.mk (show gb206 ≠ go35 from by have h_ := Kd.R_ne hraw37 BK206.out (by decide); intro e_; exact h_ (by rw [e_]; rfl))
             have HS37 := HP37.1
             rw [← Ny221.out] at HS37
             have HQ37 := Aside0.mk HS37
             obtain ⟨_, hgg37⟩ := Kd.R_typed hraw37 go35 rfl
             have GG37_ := Aside0.mk hgg37
             clear HP37 HS37 hgg37
             refine hK.out _ _ ⟨(blk_cell BK206.out 0).trans rfl, (blk_cell BK206.out 1).trans rfl, HS2_⟩ (fun hHeld => ?_)
             clear hK K
             refine norm_ (a' := ?_) ?_ ?_
             rotate_left
             ·show Act.put _ (some 59) _ = _
              simp only [Act.put, List.setIfInBounds_toArray, List.set_cons_zero, List.set_cons_succ, i64_w, i32_w]
              rfl
             refine zP (i := 11) (N := some 60) zB5_12 (any_of HT_.out (by kernel_rfl)) ?_
             refine last_ (i := 12) (N := none) zB5_13 rfl rfl (one_of HT_.out (by kernel_rfl)) (by decide) (fun K hK => ?_)
             refine skip_ (w1 := ?_) (by rfl) rfl ?_ ?_
             rotate_left
             ·go_simp
              rfl
             refine hK.out _ _ ?_
             clear hK K
             refine done_ (done_of HT_.out (by kernel_rfl)) ?_
             have n0_ : Aside0 (Kd.R (Kd.int .i64) 3 (w36.setCell ⟨go35, (x7_1 : Int).toNat, none⟩ (.slice Ao39 y218.length co39)) w.heap.size (fun _ => True) u207000 x207000_1) := ⟨by (with_reducible repeat (first | apply Kd.R_alloc | apply Kd.R_drewN | apply Kd.R_drew)); exact Kd.R_mono (Kd.R_far (p := ⟨go35, (x7_1 : Int).toNat, none⟩) (Kd.R_types HO_207000.out GG37_.out (by decide)) (fun _ hk => hk.2) (.slice Ao39 y218.length co39)) (fun _ hk => trivial)⟩
             have n1_ : Aside0 (Kd.S (Kd.slice 3 (Kd.int .i64)) 22 (w36.setCell ⟨go35, (x7_1 : Int).toNat, none⟩ (.slice Ao39 y218.length co39)) w.heap.size (fun k_ => some k_ ≠ (u207000 : Value).ownBlock) (.slice (some ⟨go35, 0, none⟩) x207001_1.length co19) y221) := ⟨by (with_reducible repeat (first | apply Kd.S_alloc | apply Kd.S_drewN | apply Kd.S_drew)); exact HQ37.out⟩
             have n2_ : Aside0 ((w36.setCell ⟨go35, (x7_1 : Int).toNat, none⟩ (.slice Ao39 y218.length co39)).heap[gb198]? = some (.cells #[.slice A0_0 l0_0.length c0_0, .slice A0_1 l0_1.length c0_1] 40 (0, 0))) := ⟨by (with_reducible repeat (first | refine blk_drewN ?_ _ | refine blk_drew ?_ | refine blk_alloc ?_ _)); refine blk_far ?_ HNB198_go35.out _; (with_reducible repeat (first | refine blk_drewN ?_ _ | refine blk_drew ?_ | refine blk_alloc ?_ _)); exact BK198.out⟩
             have n3_ : Aside0 ((w36.setCell ⟨go35, (x7_1 : Int).toNat, none⟩ (.slice Ao39 y218.length co39)).heap[gb199]? = some (.cells #[.slice none 0 0, .slice none 0 0] 40 (0, 0))) := ⟨by (with_reducible repeat (first | refine blk_drewN ?_ _ | refine blk_drew ?_ | refine blk_alloc ?_ _)); refine blk_far ?_ HNB199_go35.out _; (with_reducible repeat (first | refine blk_drewN ?_ _ | refine blk_drew ?_ | refine blk_alloc ?_ _)); exact BK199.out⟩
             have n4_ : Aside0 ((w36.setCell ⟨go35, (x7_1 : Int).toNat, none⟩ (.slice Ao39 y218.length co39)).heap[gb206]? = some (.cells #[u207000, .slice (some ⟨go35, 0, none⟩) x207001_1.length co19] 40 (0, 0))) := ⟨by (with_reducible repeat (first | refine blk_drewN ?_ _ | refine blk_drew ?_ | refine blk_alloc ?_ _)); refine blk_far ?_ HNB206_go35.out _; (with_reducible repeat (first | refine blk_drewN ?_ _ | refine blk_drew ?_ | refine blk_alloc ?_ _)); exact BK206.out⟩
             have n5_ : Aside0 (Below w.heap.size w (w36.setCell ⟨go35, (x7_1 : Int).toNat, none⟩ (.slice Ao39 y218.length co39))) := ⟨by repeat (first | (with_reducible first | exact HB.out | apply below_alloc | apply pw_below_drewN | apply below_drew1 | refine below_set ?_ GB35.out | refine below_set ?_ GE198.out | refine below_set ?_ GE199.out | refine below_set ?_ GE206.out) | exact HB.out)⟩
             (try clear HO_207000)
             (try clear HO_207001)
             (try clear BK198)
             (try clear BK199)
             (try clear BK206)
             (try clear HB)
             generalize (w36.setCell ⟨go35, (x7_1 : Int).toNat, none⟩ (.slice Ao39 y218.length co39)) = w40 at n0_ n1_ n2_ n3_ n4_ n5_ ⊢
             have HO_207000 := n0_
             have HO_207001 := n1_
             have BK198 := n2_
             have BK199 := n3_
             have BK206 := n4_
             have HB := n5_
             clear n0_ n1_ n2_ n3_ n4_ n5_
             have hcz41_0 : w40.cell? ⟨gb206, 0, none⟩ = some (u207000) := (blk_cell BK206.out 0).trans rfl
             have hcz41_1 : w40.cell? ⟨gb206, 1, none⟩ = some (.slice (some ⟨go35, 0, none⟩) x207001_1.length co19) := (blk_cell BK206.out 1).trans rfl
             have hfz41_0 := blk_frozen BK206.out 0
             have hfz41_1 := blk_frozen BK206.out 1
             obtain ⟨Ao42, co42, eo42⟩ := Kd.R_slice HO_207000.out
             subst eo42
             have hnb43 := NB199_198.out
             have hnc43 := NB198_199.out
             have hcz44_0 : w40.cell? ⟨gb199, 0, none⟩ = some (.slice none 0 0) := (blk_cell BK199.out 0).trans rfl
             have hcz44_1 : w40.cell? ⟨gb199, 1, none⟩ = some (.slice none 0 0) := (blk_cell BK199.out 1).trans rfl
             have hfz44_0 := blk_frozen BK199.out 0
             have hfz44_1 := blk_frozen BK199.out 1
             try go_wp2
             refine bodyPost_ret (results_ct rfl _ _ gb199 40 #[.slice Ao42 x207000_1.length co42, .slice (some ⟨go35, 0, none⟩) x207001_1.length co19] (0, 0) _ rfl (by (with_reducible repeat (first | refine blk_drewN ?_ _ | refine blk_drew ?_ | refine blk_alloc ?_ _)); refine blk_put (cs := #[.slice Ao42 x207000_1.length co42, .slice none 0 0]) ?_ 1 _ rfl; (with_reducible repeat (first | refine blk_drewN ?_ _ | refine blk_drew ?_ | refine blk_alloc ?_ _)); refine blk_put (cs := #[.slice none 0 0, .slice none 0 0]) ?_ 0 _ rfl; (with_reducible repeat (first | refine blk_drewN ?_ _ | refine blk_drew ?_ | refine blk_alloc ?_ _)); exact BK199.out) Try.underlying40 rfl (by kernel_rfl)) rfl ?_
             exact ⟨_, _, by first | rfl | (simp [errW_none, errW_some] <;> rfl) | (simp [*, errW_none, errW_some] <;> rfl), by (with_reducible repeat (first | apply Kd.R_alloc | apply Kd.R_drewN | apply Kd.R_drew)); exact Kd.R_mono (Kd.R_far (p := ⟨gb199, 1, none⟩) (Kd.R_far (p := ⟨gb199, 0, none⟩) (Kd.R_types HO_207000.out BK199.out (by decide)) (fun _ hk => hk.2) (.slice Ao42 x207000_1.length co42)) (fun _ hk => hk.2) (.slice (some ⟨go35, 0, none⟩) x207001_1.length co19)) (fun _ hk => trivial), by (with_reducible repeat (first | apply Kd.S_alloc | apply Kd.S_drewN | apply Kd.S_drew)); exact Kd.S_mono (Kd.S_far (p := ⟨gb199, 1, none⟩) (Kd.S_far (p := ⟨gb199, 0, none⟩) (Kd.S_types HO_207001.out BK199.out (by decide)) (fun _ hk => hk.2) (.slice Ao42 x207000_1.length co42)) (fun _ hk => hk.2) (.slice (some ⟨go35, 0, none⟩) x207001_1.length co19)) (fun _ hk => hk.1), by repeat (first | (with_reducible first | exact HB.out | apply below_alloc | apply pw_below_drewN | apply below_drew1 | refine below_set ?_ GE198.out | refine below_set ?_ GE199.out | refine below_set ?_ GE206.out) | exact HB.out)⟩
            ·rw [if_neg c29] at H
             exact absurd H (by simp)
           ·rw [if_neg c28] at H
            have c28b0 : (x8_2 == ((rd_L1 x207001_1 x7_1).length : Int)) = false := beq_eq_false_iff_ne.mpr c28
            have c28b1 : (x8_2 != ((rd_L1 x207001_1 x7_1).length : Int)) = true := bne_iff_ne.mpr c28
            obtain ⟨y225, hy225⟩ : ∃ y_ : List Int, y_ = ((rd_L1 x207001_1 x7_1).set (x8_2 : Int).toNat x1_1) := ⟨_, rfl⟩
            replace H : (spec_l9Insert.l0 k2 (rd (rd_L1 x207001_1 x7_1) x8_2) (wrap64 (x7_1 + 1)) x207000_1 (x207001_1.set (x7_1 : Int).toNat y225)) = some (r1, r2, r3) := by first | (rw [hy225]; with_reducible exact H) | (have H2_ := (Option.bind_some _ _).symm.trans H; rw [hy225]; with_reducible exact H2_) | (have H2_ := (Option.bind_some _ _).symm.trans H; with_reducible exact H2_) | with_reducible exact H | (rw [hy225]; exact H) | exact H
            have Ny225 := Aside0.mk hy225
            clear hy225
            obtain ⟨y227, hy227⟩ : ∃ y_ : List (List Int), y_ = (x207001_1.set (x7_1 : Int).toNat y225) := ⟨_, rfl⟩
            replace H : (spec_l9Insert.l0 k2 (rd (rd_L1 x207001_1 x7_1) x8_2) (wrap64 (x7_1 + 1)) x207000_1 y227) = some (r1, r2, r3) := by first | (rw [hy227]; with_reducible exact H) | (have H2_ := (Option.bind_some _ _).symm.trans H; rw [hy227]; with_reducible exact H2_) | (have H2_ := (Option.bind_some _ _).symm.trans H; with_reducible exact H2_) | with_reducible exact H | (rw [hy227]; exact H) | exact H
            have Ny227 := Aside0.mk hy227
            clear hy227
            have H' := Aside0.mk H
            clear H
            have hnb46 := NB206_198.out
            have hnc46 := NB198_206.out
            have hnb47 := NB206_199.out
            have hnc47 := NB199_206.out
            have hcz48_0 : wr.cell? ⟨gb206, 0, none⟩ = some (u207000) := (blk_cell BK206.out 0).trans rfl
            have hcz48_1 : wr.cell? ⟨gb206, 1, none⟩ = some (.slice Ao19 x207001_1.length co19) := (blk_cell BK206.out 1).trans rfl
            have hfz48_0 := blk_frozen BK206.out 0
            have hfz48_1 := blk_frozen BK206.out 1
            have p213 : 0 ≤ (x7_1 : Int) := of_decide_eq_true (by first | (with_reducible assumption) | assumption)
            have q213 : x7_1 < (x207001_1.length : Int) := of_decide_eq_true (by first | (with_reducible assumption) | assumption)
            obtain ⟨ad213, A213_0, c213_0, e213, hx213_0, hl213_0, hi213_0⟩ := at_L1 (Kd.S_reads' HO_207001.out).2.2 x7_1 p213 q213
            cases e213
            obtain ⟨ce213, hce213, hMe213, hcc213⟩ := Kd.S_get HO_207001.out [] x7_1 p213 (by first | exact q213 | exact of_decide_eq_true (by first | (with_reducible assumption) | assumption) | (have e_ := (Kd.S_reads' HO_207001.out).1; omega))
            obtain ⟨ve213_0, rfl, ge213_0⟩ := hMe213
            have hv213_0 := hcc213 0 _ rfl
            rw [Nat.add_zero, show ((Kd.slice 3 (Kd.int .i64))).sz = 1 from rfl, Nat.mul_one] at hv213_0
            replace hv213_0 := Option.some.inj (hv213_0.symm.trans hx213_0)
            rw [hv213_0] at ge213_0
            have HL213_0 := Aside0.mk (show Kd.R (Kd.int .i64) 3 _ _ _ _ (rd_L1 x207001_1 x7_1) from ge213_0)
            clear hv213_0 ge213_0
            have HX213_0 := Aside0.mk hx213_0
            clear hcc213 hce213
            have HR213_0 := Aside0.mk hi213_0
            have HC213_0 := Aside0.mk hl213_0
            clear hi213_0 hl213_0
            replace p213 := eq_true p213
            replace q213 := eq_true q213
            have p214 : 0 ≤ (x7_1 : Int) := of_decide_eq_true (by first | (with_reducible assumption) | assumption)
            have q214 : x7_1 < (x207001_1.length : Int) := of_decide_eq_true (by first | (with_reducible assumption) | assumption)
            obtain ⟨ad214, A214_0, c214_0, e214, hx214_0, hl214_0, hi214_0⟩ := at_L1 (Kd.S_reads' HO_207001.out).2.2 x7_1 p214 q214
            obtain rfl : ad213 = ad214 := (by injection e214)
            obtain ⟨ce214, hce214, hMe214, hcc214⟩ := Kd.S_get HO_207001.out [] x7_1 p214 (by first | exact q214 | exact of_decide_eq_true (by first | (with_reducible assumption) | assumption) | (have e_ := (Kd.S_reads' HO_207001.out).1; omega))
            obtain ⟨ve214_0, rfl, ge214_0⟩ := hMe214
            have hv214_0 := hcc214 0 _ rfl
            rw [Nat.add_zero, show ((Kd.slice 3 (Kd.int .i64))).sz = 1 from rfl, Nat.mul_one] at hv214_0
            replace hv214_0 := Option.some.inj (hv214_0.symm.trans hx214_0)
            rw [hv214_0] at ge214_0
            have HL214_0 := Aside0.mk (show Kd.R (Kd.int .i64) 3 _ _ _ _ (rd_L1 x207001_1 x7_1) from ge214_0)
            clear hv214_0 ge214_0
            have HX214_0 := Aside0.mk hx214_0
            clear hcc214 hce214
            have HR214_0 := Aside0.mk hi214_0
            have HC214_0 := Aside0.mk hl214_0
            clear hi214_0 hl214_0
            replace p214 := eq_true p214
            replace q214 := eq_true q214
            have ea_ := Option.some.inj (hx213_0.symm.trans hx214_0)
            injection ea_ with ea_ en_ ec_
            subst ea_
            subst ec_
            clear en_
            have p215 : 0 ≤ (x8_2 : Int) := of_decide_eq_true (by first | (with_reducible assumption) | assumption)
            have q215 : x8_2 < ((rd_L1 x207001_1 x7_1).length : Int) := of_decide_eq_true (by first | (with_reducible assumption) | assumption)
            obtain ⟨ad215, e215, hx215_0⟩ := Kd.at_int (by repeat (first | (with_reducible exact HR214_0.out) | (with_reducible refine Kd.C_alloc ?_ _) | (with_reducible refine Kd.C_drewN ?_ _) | (with_reducible refine Kd.C_drew ?_) | exact HR214_0.out)) x8_2 p215 q215
            cases e215
            replace p215 := eq_true p215
            replace q215 := eq_true q215
            have p216 : 0 ≤ (x7_1 : Int) := of_decide_eq_true (by first | (with_reducible assumption) | assumption)
            have q216 : x7_1 < (x207001_1.length : Int) := of_decide_eq_true (by first | (with_reducible assumption) | assumption)
            obtain ⟨ad216, A216_0, c216_0, e216, hx216_0, hl216_0, hi216_0⟩ := at_L1 (Kd.S_reads' HO_207001.out).2.2 x7_1 p216 q216
            obtain rfl : ad213 = ad216 := (by injection e216)
            obtain ⟨ce216, hce216, hMe216, hcc216⟩ := Kd.S_get HO_207001.out [] x7_1 p216 (by first | exact q216 | exact of_decide_eq_true (by first | (with_reducible assumption) | assumption) | (have e_ := (Kd.S_reads' HO_207001.out).1; omega))
            obtain ⟨ve216_0, rfl, ge216_0⟩ := hMe216
            have hv216_0 := hcc216 0 _ rfl
            rw [Nat.add_zero, show ((Kd.slice 3 (Kd.int .i64))).sz = 1 from rfl, Nat.mul_one] at hv216_0
            replace hv216_0 := Option.some.inj (hv216_0.symm.trans hx216_0)
            rw [hv216_0] at ge216_0
            have HL216_0 := Aside0.mk (show Kd.R (Kd.int .i64) 3 _ _ _ _ (rd_L1 x207001_1 x7_1) from ge216_0)
            clear hv216_0 ge216_0
            have HX216_0 := Aside0.mk hx216_0
            clear hcc216 hce216
            have HR216_0 := Aside0.mk hi216_0
            have HC216_0 := Aside0.mk hl216_0
            clear hi216_0 hl216_0
            replace p216 := eq_true p216
            replace q216 := eq_true q216
            have ea_ := Option.some.inj (hx213_0.symm.trans hx216_0)
            injection ea_ with ea_ en_ ec_
            subst ea_
            subst ec_
            clear en_
            have p222 : 0 ≤ (x7_1 : Int) := of_decide_eq_true (by first | (with_reducible assumption) | assumption)
            have q222 : x7_1 < (x207001_1.length : Int) := of_decide_eq_true (by first | (with_reducible assumption) | assumption)
            obtain ⟨ad222, A222_0, c222_0, e222, hx222_0, hl222_0, hi222_0⟩ := at_L1 (Kd.S_reads' HO_207001.out).2.2 x7_1 p222 q222
            obtain rfl : ad213 = ad222 := (by injection e222)
            obtain ⟨ce222, hce222, hMe222, hcc222⟩ := Kd.S_get HO_207001.out [] x7_1 p222 (by first | exact q222 | exact of_decide_eq_true (by first | (with_reducible assumption) | assumption) | (have e_ := (Kd.S_reads' HO_207001.out).1; omega))
            obtain ⟨ve222_0, rfl, ge222_0⟩ := hMe222
            have hv222_0 := hcc222 0 _ rfl
            rw [Nat.add_zero, show ((Kd.slice 3 (Kd.int .i64))).sz = 1 from rfl, Nat.mul_one] at hv222_0
            replace hv222_0 := Option.some.inj (hv222_0.symm.trans hx222_0)
            rw [hv222_0] at ge222_0
            have HL222_0 := Aside0.mk (show Kd.R (Kd.int .i64) 3 _ _ _ _ (rd_L1 x207001_1 x7_1) from ge222_0)
            clear hv222_0 ge222_0
            have HX222_0 := Aside0.mk hx222_0
            clear hcc222 hce222
            have HR222_0 := Aside0.mk hi222_0
            have HC222_0 := Aside0.mk hl222_0
            clear hi222_0 hl222_0
            replace p222 := eq_true p222
            replace q222 := eq_true q222
            have ea_ := Option.some.inj (hx213_0.symm.trans hx222_0)
            injection ea_ with ea_ en_ ec_
            subst ea_
            subst ec_
            clear en_
            have p223 : 0 ≤ (x8_2 : Int) := of_decide_eq_true (by first | (with_reducible assumption) | assumption)
            have q223 : x8_2 < ((rd_L1 x207001_1 x7_1).length : Int) := of_decide_eq_true (by first | (with_reducible assumption) | assumption)
            obtain ⟨ad223, e223, hx223_0⟩ := Kd.at_int (by repeat (first | (with_reducible exact HR222_0.out) | (with_reducible refine Kd.C_alloc ?_ _) | (with_reducible refine Kd.C_drewN ?_ _) | (with_reducible refine Kd.C_drew ?_) | exact HR222_0.out)) x8_2 p223 q223
            cases e223
            replace p223 := eq_true p223
            replace q223 := eq_true q223
            have p224 : 0 ≤ (x7_1 : Int) := of_decide_eq_true (by first | (with_reducible assumption) | assumption)
            have q224 : x7_1 < (x207001_1.length : Int) := of_decide_eq_true (by first | (with_reducible assumption) | assumption)
            obtain ⟨ad224, A224_0, c224_0, e224, hx224_0, hl224_0, hi224_0⟩ := at_L1 (Kd.S_reads' HO_207001.out).2.2 x7_1 p224 q224
            obtain rfl : ad213 = ad224 := (by injection e224)
            obtain ⟨ce224, hce224, hMe224, hcc224⟩ := Kd.S_get HO_207001.out [] x7_1 p224 (by first | exact q224 | exact of_decide_eq_true (by first | (with_reducible assumption) | assumption) | (have e_ := (Kd.S_reads' HO_207001.out).1; omega))
            obtain ⟨ve224_0, rfl, ge224_0⟩ := hMe224
            have hv224_0 := hcc224 0 _ rfl
            rw [Nat.add_zero, show ((Kd.slice 3 (Kd.int .i64))).sz = 1 from rfl, Nat.mul_one] at hv224_0
            replace hv224_0 := Option.some.inj (hv224_0.symm.trans hx224_0)
            rw [hv224_0] at ge224_0
            have HL224_0 := Aside0.mk (show Kd.R (Kd.int .i64) 3 _ _ _ _ (rd_L1 x207001_1 x7_1) from ge224_0)
            clear hv224_0 ge224_0
            have HX224_0 := Aside0.mk hx224_0
            clear hcc224 hce224
            have HR224_0 := Aside0.mk hi224_0
            have HC224_0 := Aside0.mk hl224_0
            clear hi224_0 hl224_0
            replace p224 := eq_true p224
            replace q224 := eq_true q224
            have ea_ := Option.some.inj (hx213_0.symm.trans hx224_0)
            injection ea_ with ea_ en_ ec_
            subst ea_
            subst ec_
            clear en_
            have p45 : 0 ≤ (x8_2 : Int) := of_decide_eq_true (by first | (with_reducible assumption) | assumption)
            have q45 : (x8_2 : Int) < (((rd_L1 x207001_1 x7_1).length : Int) : Int) := of_decide_eq_true (by first | (with_reducible assumption) | assumption)
            obtain ⟨go45, co45, eo45, gb45, gl45, cl45, HG45⟩ := Kd.R_form HL224_0.out (by omega)
            (first | cases eo45 | (injection eo45 with ea_ en_ ec_; (first | subst ea_ | (injection ea_ with ea_; subst ea_)); subst ec_; clear en_))
            have GB45 := Aside0.mk gb45
            have GG45 := Aside0.mk HG45
            clear gb45 gl45 HG45
            (first | simp only [add_plain] at hx223_0 | skip)
            obtain ⟨hx45_0, hf45_0⟩ := Kd.R_celln 0 HL224_0.out (x8_2 : Int) p45 q45
            replace p45 := eq_true p45
            replace q45 := eq_true q45
            have hq49 : (x7_1 : Int) < (x207001_1.length : Int) := (by have h_ : (x7_1 : Int) < ((x207001_1.length : Int) : Int) := of_decide_eq_true (by first | (with_reducible assumption) | assumption); first | exact h_ | (have e_ := (Kd.S_reads' HO_207001.out).1; omega) | simpa only [List.length_set, List.length_set] using h_)
            obtain ⟨oki49, ce49, hcl49, hM49, hcc49, hok49, hbk49⟩ := Kd.S_borrow HO_207001.out [] (x7_1 : Int) (of_decide_eq_true (by first | (with_reducible assumption) | assumption)) hq49
            obtain ⟨ve49_0, rfl, ge49_0⟩ := hM49
            have hv49 := hcc49 0 _ rfl
            rw [Nat.add_zero, show ((Kd.slice 3 (Kd.int .i64))).sz = 1 from rfl, Nat.mul_one] at hv49
            replace hv49 := Option.some.inj (hv49.symm.trans HX224_0.out)
            subst hv49
            clear hcc49 hcl49
            replace ge49_0 := (show Kd.R (Kd.int .i64) 3 _ _ _ _ (rd_L1 x207001_1 x7_1) from ge49_0)
            have HP49 := Kd.R_putg ge49_0 (x8_2 : Int) x1_1
            go_wp2_with (first | ((with_reducible refine gate_store (t := 3) (p := 78) rfl ?_); refine store_event (t := 3) (p := 78) (v := ?vo_w50) (w1 := (wr.setCell ⟨go45, (x8_2 : Int).toNat, none⟩ (.int .i64 x1_1))) ?hg ?ho ?hn ?hr ?_; (case ho => rfl); (case hg => rfl); (case hn => rfl); (case hr => first | (go_simp; done) | (go_simp; rfl)); intro w50 hw; have hg : wr.grownBy w50 (some go45) := (by rw [hw]; exact HP49.2); have hz_ : Kd.R (Kd.int .i64) 3 w50 w.heap.size oki49 (.slice (some ⟨go45, 0, none⟩) (rd_L1 x207001_1 x7_1).length c213_0) y225 := (by rw [hw, Ny225.out]; exact HP49.1); have hp_ : Kd.S (Kd.slice 3 (Kd.int .i64)) 22 w50 w.heap.size (fun k_ => some k_ ≠ (u207000 : Value).ownBlock) (.slice (some ad213) x207001_1.length co19) y227 := (by rw [Ny227.out]; exact hbk49 hg (fun k_ e_ => by injection e_ with e_; subst e_; exact ge49_0.1 _ rfl) (Kd.M_row hz_)); have hm_ := Kd.R_mono hz_ hok49; clear HP49 hbk49; have n0_ := Aside0.mk (Kd.R_grown1 (by (with_reducible repeat (first | apply Kd.R_alloc | apply Kd.R_drewN | apply Kd.R_drew)); exact HO_207000.out) rfl hg ((HL224_0.out.1 _ rfl).1)); have n1_ := Aside0.mk (hp_); have n2_ := Aside0.mk (blk_grown (g := gb198) (o := .cells #[.slice A0_0 l0_0.length c0_0, .slice A0_1 l0_1.length c0_1] 40 (0, 0)) (by (with_reducible repeat (first | refine blk_drewN ?_ _ | refine blk_drew ?_ | refine blk_alloc ?_ _)); exact BK198.out) hg (Kd.R_ne HL224_0.out BK198.out (by decide))); have n3_ := Aside0.mk (blk_grown (g := gb199) (o := .cells #[.slice none 0 0, .slice none 0 0] 40 (0, 0)) (by (with_reducible repeat (first | refine blk_drewN ?_ _ | refine blk_drew ?_ | refine blk_alloc ?_ _)); exact BK199.out) hg (Kd.R_ne HL224_0.out BK199.out (by decide))); have n4_ := Aside0.mk (blk_grown (g := gb206) (o := .cells #[u207000, .slice (some ad213) x207001_1.length co19] 40 (0, 0)) (by (with_reducible repeat (first | refine blk_drewN ?_ _ | refine blk_drew ?_ | refine blk_alloc ?_ _)); exact BK206.out) hg (Kd.R_ne HL224_0.out BK206.out (by decide))); have n5_ := Aside0.mk ((by rw [hw]; exact below_set (HB.out) GB45.out : Below w.heap.size w w50)); have n6_ := Aside0.mk (hm_); have n7_ := Aside0.mk ((Kd.R_reads' hm_).2.1); clear HO_207000; clear HO_207001; clear BK198; clear BK199; clear BK206; clear HB; clear HL213_0; clear HL214_0; clear HL216_0; clear HL222_0; clear HL224_0; have HO_207000 := n0_; have HO_207001 := n1_; have BK198 := n2_; have BK199 := n3_; have BK206 := n4_; have HB := n5_; have HL235 := n6_; have HC226 := n7_; clear n0_ n1_ n2_ n3_ n4_ n5_ n6_ n7_; clear hg hw hp_ hz_ hm_ hok49))
            go_roundg k2
            case measure => have := HK1.out; have := HK2.out; omega
            case rel => exact ⟨(rd (rd_L1 x207001_1 x7_1) x8_2), (wrap64 (x7_1 + 1)), (x207000_1), (y227), (u207000), (.slice (some ad213) x207001_1.length co19), (by first | rfl | (simp; done) | (simp [*]; done)), (by first | rfl | (simp; done) | (simp [*]; done)), H', ⟨by have := HK1.out; have := HK2.out; omega⟩, ⟨by (with_reducible repeat (first | apply Kd.R_alloc | apply Kd.R_drewN | apply Kd.R_drew)); exact HO_207000.out⟩, ⟨by (with_reducible repeat (first | apply Kd.S_alloc | apply Kd.S_drewN | apply Kd.S_drew)); exact HO_207001.out⟩, ⟨by (with_reducible repeat (first | refine blk_drewN ?_ _ | refine blk_drew ?_ | refine blk_alloc ?_ _)); exact BK198.out⟩, ⟨by (with_reducible repeat (first | refine blk_drewN ?_ _ | refine blk_drew ?_ | refine blk_alloc ?_ _)); exact BK199.out⟩, ⟨by (with_reducible repeat (first | refine blk_drewN ?_ _ | refine blk_drew ?_ | refine blk_alloc ?_ _)); exact BK206.out⟩, ⟨by repeat (first | (with_reducible first | exact HB.out | apply below_alloc | apply pw_below_drewN | apply below_drew1 | refine below_set ?_ GE198.out | refine below_set ?_ GE199.out | refine below_set ?_ GE206.out) | exact HB.out)⟩⟩
         ·rw [if_neg c23] at H
          exact absurd H (by simp)
        ·rw [if_neg c22] at H
         have c22b0 : decide (x8_2 < ((rd_L1 x207001_1 x7_1).length : Int)) = false := decide_eq_false c22
         clear c22
         by_cases c51 : x8_2 = ((rd_L1 x207001_1 x7_1).length : Int)
         ·rw [if_pos c51] at H
          have c51b0 : (x8_2 == ((rd_L1 x207001_1 x7_1).length : Int)) = true := beq_iff_eq.mpr c51
          have c51b1 : (x8_2 != ((rd_L1 x207001_1 x7_1).length : Int)) = false := bne_eq_false_iff_eq.mpr c51
          clear c51
          by_cases c52 : (rd_L1 x207001_1 x7_1).length < 17592186044416
          ·rw [if_pos c52] at H
           have LMc52 := Aside0.mk c52
           clear c52
           obtain ⟨y230, hy230⟩ : ∃ y_ : List Int, y_ = ((rd_L1 x207001_1 x7_1) ++ [x1_1]) := ⟨_, rfl⟩
           replace H : (some (x207000_1, (x207001_1.set (x7_1 : Int).toNat y230), x7_1)) = some (r1, r2, r3) := by first | (rw [hy230]; with_reducible exact H) | (have H2_ := (Option.bind_some _ _).symm.trans H; rw [hy230]; with_reducible exact H2_) | (have H2_ := (Option.bind_some _ _).symm.trans H; with_reducible exact H2_) | with_reducible exact H | (rw [hy230]; exact H) | exact H
           have Ny230 := Aside0.mk hy230
           clear hy230
           obtain ⟨y233, hy233⟩ : ∃ y_ : List (List Int), y_ = (x207001_1.set (x7_1 : Int).toNat y230) := ⟨_, rfl⟩
           replace H : (some (x207000_1, y233, x7_1)) = some (r1, r2, r3) := by first | (rw [hy233]; with_reducible exact H) | (have H2_ := (Option.bind_some _ _).symm.trans H; rw [hy233]; with_reducible exact H2_) | (have H2_ := (Option.bind_some _ _).symm.trans H; with_reducible exact H2_) | with_reducible exact H | (rw [hy233]; exact H) | exact H
           have Ny233 := Aside0.mk hy233
           clear hy233
           simp only [Option.some.injEq, Prod.mk.injEq] at H
           obtain ⟨rfl, rfl, rfl⟩ := H
           have hnb54 := NB206_198.out
           have hnc54 := NB198_206.out
           have hnb55 := NB206_199.out
           have hnc55 := NB199_206.out
           have hcz56_0 : wr.cell? ⟨gb206, 0, none⟩ = some (u207000) := (blk_cell BK206.out 0).trans rfl
           have hcz56_1 : wr.cell? ⟨gb206, 1, none⟩ = some (.slice Ao19 x207001_1.length co19) := (blk_cell BK206.out 1).trans rfl
           have hfz56_0 := blk_frozen BK206.out 0
           have hfz56_1 := blk_frozen BK206.out 1
           have p213 : 0 ≤ (x7_1 : Int) := of_decide_eq_true (by first | (with_reducible assumption) | assumption)
           have q213 : x7_1 < (x207001_1.length : Int) := of_decide_eq_true (by first | (with_reducible assumption) | assumption)
           obtain ⟨ad213, A213_0, c213_0, e213, hx213_0, hl213_0, hi213_0⟩ := at_L1 (Kd.S_reads' HO_207001.out).2.2 x7_1 p213 q213
           cases e213
           obtain ⟨ce213, hce213, hMe213, hcc213⟩ := Kd.S_get HO_207001.out [] x7_1 p213 (by first | exact q213 | exact of_decide_eq_true (by first | (with_reducible assumption) | assumption) | (have e_ := (Kd.S_reads' HO_207001.out).1; omega))
           obtain ⟨ve213_0, rfl, ge213_0⟩ := hMe213
           have hv213_0 := hcc213 0 _ rfl
           rw [Nat.add_zero, show ((Kd.slice 3 (Kd.int .i64))).sz = 1 from rfl, Nat.mul_one] at hv213_0
           replace hv213_0 := Option.some.inj (hv213_0.symm.trans hx213_0)
           rw [hv213_0] at ge213_0
           have HL213_0 := Aside0.mk (show Kd.R (Kd.int .i64) 3 _ _ _ _ (rd_L1 x207001_1 x7_1) from ge213_0)
           clear hv213_0 ge213_0
           have HX213_0 := Aside0.mk hx213_0
           clear hcc213 hce213
           have HR213_0 := Aside0.mk hi213_0
           have HC213_0 := Aside0.mk hl213_0
           clear hi213_0 hl213_0
           replace p213 := eq_true p213
           replace q213 := eq_true q213
           have p228 : 0 ≤ (x7_1 : Int) := of_decide_eq_true (by first | (with_reducible assumption) | assumption)
           have q228 : x7_1 < (x207001_1.length : Int) := of_decide_eq_true (by first | (with_reducible assumption) | assumption)
           obtain ⟨ad228, A228_0, c228_0, e228, hx228_0, hl228_0, hi228_0⟩ := at_L1 (Kd.S_reads' HO_207001.out).2.2 x7_1 p228 q228
           obtain rfl : ad213 = ad228 := (by injection e228)
           obtain ⟨ce228, hce228, hMe228, hcc228⟩ := Kd.S_get HO_207001.out [] x7_1 p228 (by first | exact q228 | exact of_decide_eq_true (by first | (with_reducible assumption) | assumption) | (have e_ := (Kd.S_reads' HO_207001.out).1; omega))
           obtain ⟨ve228_0, rfl, ge228_0⟩ := hMe228
           have hv228_0 := hcc228 0 _ rfl
           rw [Nat.add_zero, show ((Kd.slice 3 (Kd.int .i64))).sz = 1 from rfl, Nat.mul_one] at hv228_0
           replace hv228_0 := Option.some.inj (hv228_0.symm.trans hx228_0)
           rw [hv228_0] at ge228_0
           have HL228_0 := Aside0.mk (show Kd.R (Kd.int .i64) 3 _ _ _ _ (rd_L1 x207001_1 x7_1) from ge228_0)
           clear hv228_0 ge228_0
           have HX228_0 := Aside0.mk hx228_0
           clear hcc228 hce228
           have HR228_0 := Aside0.mk hi228_0
           have HC228_0 := Aside0.mk hl228_0
           clear hi228_0 hl228_0
           replace p228 := eq_true p228
           replace q228 := eq_true q228
           have ea_ := Option.some.inj (hx213_0.symm.trans hx228_0)
           injection ea_ with ea_ en_ ec_
           subst ea_
           subst ec_
           clear en_
           try go_wp2
           have n0_ := Aside0.mk (Kd.R_drew HO_207000.out)
           have n1_ := Aside0.mk (Kd.S_drew HO_207001.out)
           have n2_ := Aside0.mk (Kd.R_drew HL213_0.out)
           have n3_ := Aside0.mk (Kd.R_drew HL228_0.out)
           have n4_ := Aside0.mk (blk_drew BK198.out)
           have n5_ := Aside0.mk (blk_drew BK199.out)
           have n6_ := Aside0.mk (blk_drew BK206.out)
           have n7_ := Aside0.mk (Kd.C_drew HR213_0.out)
           have n8_ := Aside0.mk (Kd.C_drew HR228_0.out)
           have n9_ := Aside0.mk (below_drew1 HB.out)
           clear HO_207000
           clear HO_207001
           clear HL213_0
           clear HL228_0
           clear BK198
           clear BK199
           clear BK206
           clear HR213_0
           clear HR228_0
           clear HB
           have HO_207000 := n0_
           have HO_207001 := n1_
           have HL213_0 := n2_
           have HL228_0 := n3_
           have BK198 := n4_
           have BK199 := n5_
           have BK206 := n6_
           have HR213_0 := n7_
           have HR228_0 := n8_
           have HB := n9_
           clear n0_ n1_ n2_ n3_ n4_ n5_ n6_ n7_ n8_ n9_
           have p229 : 0 ≤ (x7_1 : Int) := of_decide_eq_true (by first | (with_reducible assumption) | assumption)
           have q229 : x7_1 < (x207001_1.length : Int) := of_decide_eq_true (by first | (with_reducible assumption) | assumption)
           obtain ⟨ad229, A229_0, c229_0, e229, hx229_0, hl229_0, hi229_0⟩ := at_L1 (Kd.S_reads' HO_207001.out).2.2 x7_1 p229 q229
           obtain rfl : ad213 = ad229 := (by injection e229)
           obtain ⟨ce229, hce229, hMe229, hcc229⟩ := Kd.S_get HO_207001.out [] x7_1 p229 (by first | exact q229 | exact of_decide_eq_true (by first | (with_reducible assumption) | assumption) | (have e_ := (Kd.S_reads' HO_207001.out).1; omega))
           obtain ⟨ve229_0, rfl, ge229_0⟩ := hMe229
           have hv229_0 := hcc229 0 _ rfl
           rw [Nat.add_zero, show ((Kd.slice 3 (Kd.int .i64))).sz = 1 from rfl, Nat.mul_one] at hv229_0
           replace hv229_0 := Option.some.inj (hv229_0.symm.trans hx229_0)
           rw [hv229_0] at ge229_0
           have HL229_0 := Aside0.mk (show Kd.R (Kd.int .i64) 3 _ _ _ _ (rd_L1 x207001_1 x7_1) from ge229_0)
           clear hv229_0 ge229_0
           have HX229_0 := Aside0.mk hx229_0
           clear hcc229 hce229
           have HR229_0 := Aside0.mk hi229_0
           have HC229_0 := Aside0.mk hl229_0
           clear hi229_0 hl229_0
           replace p229 := eq_true p229
           replace q229 := eq_true q229
           obtain ⟨go58, co58, eo58, gb58, gl58, cl58, HG58⟩ := Kd.S_form HO_207001.out (by have h_ : (x7_1 : Int) < ((x207001_1.length : Int) : Int) := of_decide_eq_true (by first | (with_reducible assumption) | assumption); have h2_ : 0 ≤ (x7_1 : Int) := (of_decide_eq_true (by first | (with_reducible assumption) | assumption)); omega)
           (first | cases eo58 | (injection eo58 with ea_ en_ ec_; (first | subst ea_ | (injection ea_ with ea_; subst ea_)); subst ec_; clear en_))
           have GB58 := Aside0.mk gb58
           have GG58 := Aside0.mk HG58
           clear gb58 gl58 HG58
           (first | simp only [add_plain] at hx213_0 | skip)
           (first | simp only [add_plain] at hx214_0 | skip)
           (first | simp only [add_plain] at hx216_0 | skip)
           (first | simp only [add_plain] at hx222_0 | skip)
           (first | simp only [add_plain] at hx224_0 | skip)
           (first | simp only [add_plain] at hx228_0 | skip)
           (first | simp only [add_plain] at hx229_0 | skip)
           obtain ⟨oki58, ce58, hcl58, hM58, hcc58, _, _, hH58⟩ := Kd.S_elem HO_207001.out [] (x7_1 : Int) (of_decide_eq_true (by first | (with_reducible assumption) | assumption)) (by have h_ : (x7_1 : Int) < ((x207001_1.length : Int) : Int) := of_decide_eq_true (by first | (with_reducible assumption) | assumption); first | exact h_ | (have e_ := (Kd.S_reads' HO_207001.out).1; omega) | simpa using h_)
           obtain ⟨ve58_0, rfl, ge58_0⟩ := hM58
           have hv58 := hcc58 0 _ rfl
           have hX58 := HX229_0.out
           (try simp only [add_plain] at hX58)
           (try simp only [Nat.add_zero] at hv58)
           (try rw [show ((Kd.slice 3 (Kd.int .i64))).sz = 1 from rfl, Nat.mul_one] at hv58)
           replace hv58 := Option.some.inj (hv58.symm.trans hX58)
           subst hv58
           clear hX58 hcc58 hcl58
           have UU58 := Aside0.mk (show Kd.R (Kd.int .i64) 3 _ w.heap.size oki58 (.slice A229_0 (rd_L1 x207001_1 x7_1).length c229_0) (rd_L1 x207001_1 x7_1) from ge58_0)
           have HH58 := Aside0.mk hH58
           have HN58 := Aside0.mk (Kd.S_reads' HO_207001.out).1
           clear hH58 ge58_0
           refine start_ (n := 13) (S := fun w' => w'.cell? ⟨gb206, 0, none⟩ = some (u207000) ∧ w'.cell? ⟨gb206, 1, none⟩ = some (.slice (some ⟨go58, 0, none⟩) x207001_1.length co19) ∧ w'.cell? ⟨go58, (x7_1).toNat, none⟩ = some (.slice A229_0 (rd_L1 x207001_1 x7_1).length c229_0)) (ds := [12]) zB5_0 (by kernel_rfl) rfl rfl ⟨(blk_cell BK206.out 0).trans rfl, (blk_cell BK206.out 1).trans rfl, hx229_0⟩ (fun hHeld => ?_); refine with_tabW spec_l9Insert.tab9 spec_l9Insert.bits9 (fun HT_ HW_ => ?_)
           generalize wr.drew = w57 at HO_207000 HO_207001 HL213_0 HL228_0 BK198 BK199 BK206 HR213_0 HR228_0 HB GG58 HH58 HL229_0 HR229_0 HX229_0 UU58 hx213_0 hx228_0 hx229_0 hHeld ⊢
           refine zP (i := 0) (N := some 49) zB5_1 (any_of HT_.out (by kernel_rfl)) ?_
           refine zP (i := 2) (N := some 51) zB5_2 (any_of HT_.out (by kernel_rfl)) ?_
           refine zP (i := 3) (N := some 52) zB5_3 (any_of HT_.out (by kernel_rfl)) ?_
           refine zP (i := 5) (N := some 54) zB5_4 (any_of HT_.out (by kernel_rfl)) ?_
           refine zP (i := 8) (N := some 57) zB5_5 (any_of HT_.out (by kernel_rfl)) ?_
           refine zT3 (i := 1) (N := some 50) zB5_6 (take_ofW HT_.out HW_.out (by kernel_rfl)) hHeld ?_
           refine zT3 (i := 4) (N := some 53) zB5_7 (take_ofW HT_.out HW_.out (by kernel_rfl)) hHeld ?_
           refine zP (i := 6) (N := some 55) zB5_8 (any_of HT_.out (by kernel_rfl)) ?_
           refine zT3 (i := 7) (N := some 56) zB5_9 (take_ofW HT_.out HW_.out (by kernel_rfl)) hHeld ?_
           refine one_ (i := 9) (N := some 58) zB5_10 rfl rfl (one_of HT_.out (by kernel_rfl)) (by decide) (fun K hK => ?_)
           refine value_ (w1 := ?_) (v := ?_) (by rfl) rfl ?_ ?_
           rotate_left 2
           ·go_simp
            constructor
            ·rfl
            ·rfl
           refine hK.out _ _ ⟨(blk_cell (blk_alloc BK206.out _) 0).trans rfl, (blk_cell (blk_alloc BK206.out _) 1).trans rfl, (World.cell?_alloc_lt _ _ _ (World.block_lt_of_cell? _ _ (hHeld.2.2))).trans (hHeld.2.2)⟩ (fun hHeld => ?_)
           clear hK K
           refine norm_ (a' := ?_) ?_ ?_
           rotate_left
           ·show Act.put _ (some 58) _ = _
            simp only [Act.put, List.setIfInBounds_toArray, List.set_cons_zero, List.set_cons_succ, i64_w, i32_w]
            rfl
           refine one_ (i := 10) (N := some 59) zB5_11 rfl rfl (one_of HT_.out (by kernel_rfl)) (by decide) (fun K hK => ?_)
           refine Kd.R_append_step (Kd.int .i64) (w0 := w) w.heap.size (by rfl) (.tmp 56) (.tmp 58) 22 3 (.int .i64 0) 8 rfl Try.underlying22 info3 rfl (by decide) (by omega) (.slice A229_0 (rd_L1 x207001_1 x7_1).length c229_0) (rd_L1 x207001_1 x7_1) x1_1 [.int .i64 x1_1] (fun k_ => oki58 k_ ∨ ((fun k_ => some k_ ≠ (u207000 : Value).ownBlock)) k_ ∧ w57.heap.size ≤ k_) (fun _ => False) rfl rfl ?aP (fun _ hk => hk.elim) ?aF ?aO ?aB ?aS ?aL ?_
           (case aP => exact rfl)
           (case aB => exact (by repeat (first | (with_reducible first | exact HB.out | apply below_alloc | apply pw_below_drewN | apply below_drew1 | refine below_set ?_ GE198.out | refine below_set ?_ GE199.out | refine below_set ?_ GE206.out) | exact HB.out)))
           (case aF => exact (fun k_ hk => .inr ⟨Kd.fresh' (Kd.R_lt (by (with_reducible repeat (first | apply Kd.R_alloc | apply Kd.R_drewN | apply Kd.R_drew)); exact HO_207000.out)) k_ hk, hk⟩))
           (case aO => exact (by (with_reducible repeat (first | apply Kd.R_alloc | apply Kd.R_drewN | apply Kd.R_drew)); exact Kd.R_mono UU58.out (fun _ hk => .inl hk)))
           (case aS => exact (below_size (by repeat (first | (with_reducible first | exact HB.out | apply below_alloc | apply pw_below_drewN | apply below_drew1 | refine below_set ?_ GE198.out | refine below_set ?_ GE199.out | refine below_set ?_ GE206.out) | exact HB.out))))
           (case aL => have := LMc52.out; omega)
           intro v231 w59 ho hb hg hat
           (first | have HS2_ := cell_grown hg (hHeld.2.2) (by first | (rw [add_block]; exact (fun e_ => ((HL229_0.out.1 _ e_.symm).2) rfl)) | (show some (Addr.add _ _).block ≠ _; rw [add_block]; exact (fun e_ => ((HL229_0.out.1 _ e_.symm).2) rfl)) | exact (fun e_ => ((HL229_0.out.1 _ e_.symm).2) rfl)) | have HS2_ := cell_grown hg (cell_unalloc (hHeld.2.2) (by first | (rw [add_block]; exact Kd.S_lt HO_207001.out _ rfl) | (show (Addr.add _ _).block < _; rw [add_block]; exact Kd.S_lt HO_207001.out _ rfl) | exact Kd.S_lt HO_207001.out _ rfl)) (by first | (rw [add_block]; exact (fun e_ => ((HL229_0.out.1 _ e_.symm).2) rfl)) | (show some (Addr.add _ _).block ≠ _; rw [add_block]; exact (fun e_ => ((HL229_0.out.1 _ e_.symm).2) rfl)) | exact (fun e_ => ((HL229_0.out.1 _ e_.symm).2) rfl)))
           rw [← Ny230.out] at ho
           have n0_ := Aside0.mk (Kd.R_grown2 (by (with_reducible repeat (first | apply Kd.R_alloc | apply Kd.R_drewN | apply Kd.R_drew)); exact HO_207000.out) rfl hg (fun k_ e_ => (HL229_0.out.1 k_ e_).1))
           have n1_ := Aside0.mk (blk_grown (g := gb198) (o := .cells #[.slice A0_0 l0_0.length c0_0, .slice A0_1 l0_1.length c0_1] 40 (0, 0)) (by (with_reducible repeat (first | refine blk_drewN ?_ _ | refine blk_drew ?_ | refine blk_alloc ?_ _)); exact BK198.out) hg (Kd.R_ne HL229_0.out BK198.out (by decide)))
           have n2_ := Aside0.mk (blk_grown (g := gb199) (o := .cells #[.slice none 0 0, .slice none 0 0] 40 (0, 0)) (by (with_reducible repeat (first | refine blk_drewN ?_ _ | refine blk_drew ?_ | refine blk_alloc ?_ _)); exact BK199.out) hg (Kd.R_ne HL229_0.out BK199.out (by decide)))
           have n3_ := Aside0.mk (blk_grown (g := gb206) (o := .cells #[u207000, .slice (some ⟨go58, 0, none⟩) x207001_1.length co19] 40 (0, 0)) (by (with_reducible repeat (first | refine blk_drewN ?_ _ | refine blk_drew ?_ | refine blk_alloc ?_ _)); exact BK206.out) hg (Kd.R_ne HL229_0.out BK206.out (by decide)))
           have n4_ := Aside0.mk (hb)
           have n5_ := Aside0.mk (Kd.H_grown (Kd.H_widen (by repeat (first | exact HH58.out | refine Kd.H_alloc ?_ _ | refine Kd.H_drewN ?_ _ | refine Kd.H_drew ?_))) hg (fun k_ e_ => .inl (UU58.out.1 k_ e_)))
           have n6_ := Aside0.mk (ho)
           clear HO_207000
           clear BK198
           clear BK199
           clear BK206
           clear HB
           clear HH58
           clear HO_207001
           clear UU58
           clear HL213_0
           clear HL228_0
           clear HL229_0
           have HO_207000 := n0_
           have BK198 := n1_
           have BK199 := n2_
           have BK206 := n3_
           have HB := n4_
           have HH58 := n5_
           have HO232 := n6_
           clear n0_ n1_ n2_ n3_ n4_ n5_ n6_
           clear ho hb hg hat
           have p53 : 0 ≤ (x7_1 : Int) := of_decide_eq_true (by first | (with_reducible assumption) | assumption)
           have q53 : (x7_1 : Int) < ((x207001_1.length : Int) : Int) := of_decide_eq_true (by first | (with_reducible assumption) | assumption)
           replace p53 := eq_true p53
           replace q53 := eq_true q53
           obtain ⟨Ao62, co62, eo62⟩ := Kd.R_slice HO232.out
           (first | subst eo62 | (injection eo62 with f1_ f2_ f3_; have f4_ := f1_.symm; have f5_ := f3_.symm; clear f1_ f2_ f3_; subst f4_; subst f5_))
           obtain ⟨_, _, hraw60, _, _, hcc60, _⟩ := Kd.H_raw HH58.out (of_decide_eq_true (by first | (with_reducible assumption) | assumption)) (by have h_ : (x7_1 : Int) < ((x207001_1.length : Int) : Int) := of_decide_eq_true (by first | (with_reducible assumption) | assumption); first | exact h_ | (have e_ := (HN58.out); omega) | simpa using h_)
           obtain ⟨_, hfr60⟩ := Kd.H_at HH58.out (of_decide_eq_true (by first | (with_reducible assumption) | assumption)) (by have h_ : (x7_1 : Int) < ((x207001_1.length : Int) : Int) := of_decide_eq_true (by first | (with_reducible assumption) | assumption); first | exact h_ | (have e_ := (HN58.out); omega) | simpa using h_)
           have hx60_0 := hcc60 0 _ rfl
           have hf60_0 := hfr60 0
           (try simp only [Nat.add_zero] at hx60_0 hf60_0)
           (try rw [show ((Kd.slice 3 (Kd.int .i64))).sz = 1 from rfl, Nat.mul_one] at hx60_0)
           (try rw [show ((Kd.slice 3 (Kd.int .i64))).sz = 1 from rfl, Nat.mul_one] at hf60_0)
           have HP60 := Kd.S_seg0 HH58.out (of_decide_eq_true (by first | (with_reducible assumption) | assumption)) (by have h_ : (x7_1 : Int) < ((x207001_1.length : Int) : Int) := of_decide_eq_true (by first | (with_reducible assumption) | assumption); first | exact h_ | (have e_ := (HN58.out); omega) | simpa using h_) (seg := [.slice Ao62 y230.length co62]) (j := 0) (show 1 ≤ 1 from by decide) (x' := y230) (Kd.M_row HO232.out) (fun _ hk => hk)
           (try simp only [show ((Kd.slice 3 (Kd.int .i64))).sz = 1 from rfl, Nat.mul_one, Nat.add_zero] at HP60)
           clear hcc60 hfr60
           have HNB198_go58 := Aside0.mk (show gb198 ≠ go58 from by have h_ := Kd.R_ne hraw60 BK198.out (by decide); intro e_; exact h_ (by rw [e_]; rfl))
           have HNB199_go58 := Aside0.mk (show gb199 ≠ go58 from by have h_ := Kd.R_ne hraw60 BK199.out (by decide); intro e_; exact h_ (by rw [e_]; rfl))
           have HNB206_go58 := Aside0.mk (show gb206 ≠ go58 from by have h_ := Kd.R_ne hraw60 BK206.out (by decide); intro e_; exact h_ (by rw [e_]; rfl))
           have HS60 := HP60.1
           rw [← Ny233.out] at HS60
           have HQ60 := Aside0.mk HS60
           obtain ⟨_, hgg60⟩ := Kd.R_typed hraw60 go58 rfl
           have GG60_ := Aside0.mk hgg60
           clear HP60 HS60 hgg60
           refine hK.out _ _ ⟨(blk_cell BK206.out 0).trans rfl, (blk_cell BK206.out 1).trans rfl, HS2_⟩ (fun hHeld => ?_)
           clear hK K
           refine norm_ (a' := ?_) ?_ ?_
           rotate_left
           ·show Act.put _ (some 59) _ = _
            simp only [Act.put, List.setIfInBounds_toArray, List.set_cons_zero, List.set_cons_succ, i64_w, i32_w]
            rfl
           refine zP (i := 11) (N := some 60) zB5_12 (any_of HT_.out (by kernel_rfl)) ?_
           refine last_ (i := 12) (N := none) zB5_13 rfl rfl (one_of HT_.out (by kernel_rfl)) (by decide) (fun K hK => ?_)
           refine skip_ (w1 := ?_) (by rfl) rfl ?_ ?_
           rotate_left
           ·go_simp
            rfl
           refine hK.out _ _ ?_
           clear hK K
           refine done_ (done_of HT_.out (by kernel_rfl)) ?_
           have n0_ : Aside0 (Kd.R (Kd.int .i64) 3 (w59.setCell ⟨go58, (x7_1 : Int).toNat, none⟩ (.slice Ao62 y230.length co62)) w.heap.size (fun _ => True) u207000 x207000_1) := ⟨by (with_reducible repeat (first | apply Kd.R_alloc | apply Kd.R_drewN | apply Kd.R_drew)); exact Kd.R_mono (Kd.R_far (p := ⟨go58, (x7_1 : Int).toNat, none⟩) (Kd.R_types HO_207000.out GG60_.out (by decide)) (fun _ hk => hk.2) (.slice Ao62 y230.length co62)) (fun _ hk => trivial)⟩
           have n1_ : Aside0 (Kd.S (Kd.slice 3 (Kd.int .i64)) 22 (w59.setCell ⟨go58, (x7_1 : Int).toNat, none⟩ (.slice Ao62 y230.length co62)) w.heap.size (fun k_ => some k_ ≠ (u207000 : Value).ownBlock) (.slice (some ⟨go58, 0, none⟩) x207001_1.length co19) y233) := ⟨by (with_reducible repeat (first | apply Kd.S_alloc | apply Kd.S_drewN | apply Kd.S_drew)); exact HQ60.out⟩
           have n2_ : Aside0 ((w59.setCell ⟨go58, (x7_1 : Int).toNat, none⟩ (.slice Ao62 y230.length co62)).heap[gb198]? = some (.cells #[.slice A0_0 l0_0.length c0_0, .slice A0_1 l0_1.length c0_1] 40 (0, 0))) := ⟨by (with_reducible repeat (first | refine blk_drewN ?_ _ | refine blk_drew ?_ | refine blk_alloc ?_ _)); refine blk_far ?_ HNB198_go58.out _; (with_reducible repeat (first | refine blk_drewN ?_ _ | refine blk_drew ?_ | refine blk_alloc ?_ _)); exact BK198.out⟩
           have n3_ : Aside0 ((w59.setCell ⟨go58, (x7_1 : Int).toNat, none⟩ (.slice Ao62 y230.length co62)).heap[gb199]? = some (.cells #[.slice none 0 0, .slice none 0 0] 40 (0, 0))) := ⟨by (with_reducible repeat (first | refine blk_drewN ?_ _ | refine blk_drew ?_ | refine blk_alloc ?_ _)); refine blk_far ?_ HNB199_go58.out _; (with_reducible repeat (first | refine blk_drewN ?_ _ | refine blk_drew ?_ | refine blk_alloc ?_ _)); exact BK199.out⟩
           have n4_ : Aside0 ((w59.setCell ⟨go58, (x7_1 : Int).toNat, none⟩ (.slice Ao62 y230.length co62)).heap[gb206]? = some (.cells #[u207000, .slice (some ⟨go58, 0, none⟩) x207001_1.length co19] 40 (0, 0))) := ⟨by (with_reducible repeat (first | refine blk_drewN ?_ _ | refine blk_drew ?_ | refine blk_alloc ?_ _)); refine blk_far ?_ HNB206_go58.out _; (with_reducible repeat (first | refine blk_drewN ?_ _ | refine blk_drew ?_ | refine blk_alloc ?_ _)); exact BK206.out⟩
           have n5_ : Aside0 (Below w.heap.size w (w59.setCell ⟨go58, (x7_1 : Int).toNat, none⟩ (.slice Ao62 y230.length co62))) := ⟨by repeat (first | (with_reducible first | exact HB.out | apply below_alloc | apply pw_below_drewN | apply below_drew1 | refine below_set ?_ GB58.out | refine below_set ?_ GE198.out | refine below_set ?_ GE199.out | refine below_set ?_ GE206.out) | exact HB.out)⟩
           (try clear HO_207000)
           (try clear HO_207001)
           (try clear BK198)
           (try clear BK199)
           (try clear BK206)
           (try clear HB)
           generalize (w59.setCell ⟨go58, (x7_1 : Int).toNat, none⟩ (.slice Ao62 y230.length co62)) = w63 at n0_ n1_ n2_ n3_ n4_ n5_ ⊢
           have HO_207000 := n0_
           have HO_207001 := n1_
           have BK198 := n2_
           have BK199 := n3_
           have BK206 := n4_
           have HB := n5_
           clear n0_ n1_ n2_ n3_ n4_ n5_
           have hcz64_0 : w63.cell? ⟨gb206, 0, none⟩ = some (u207000) := (blk_cell BK206.out 0).trans rfl
           have hcz64_1 : w63.cell? ⟨gb206, 1, none⟩ = some (.slice (some ⟨go58, 0, none⟩) x207001_1.length co19) := (blk_cell BK206.out 1).trans rfl
           have hfz64_0 := blk_frozen BK206.out 0
           have hfz64_1 := blk_frozen BK206.out 1
           obtain ⟨Ao65, co65, eo65⟩ := Kd.R_slice HO_207000.out
           subst eo65
           have hnb66 := NB199_198.out
           have hnc66 := NB198_199.out
           have hcz67_0 : w63.cell? ⟨gb199, 0, none⟩ = some (.slice none 0 0) := (blk_cell BK199.out 0).trans rfl
           have hcz67_1 : w63.cell? ⟨gb199, 1, none⟩ = some (.slice none 0 0) := (blk_cell BK199.out 1).trans rfl
           have hfz67_0 := blk_frozen BK199.out 0
           have hfz67_1 := blk_frozen BK199.out 1
           try go_wp2
           refine bodyPost_ret (results_ct rfl _ _ gb199 40 #[.slice Ao65 x207000_1.length co65, .slice (some ⟨go58, 0, none⟩) x207001_1.length co19] (0, 0) _ rfl (by (with_reducible repeat (first | refine blk_drewN ?_ _ | refine blk_drew ?_ | refine blk_alloc ?_ _)); refine blk_put (cs := #[.slice Ao65 x207000_1.length co65, .slice none 0 0]) ?_ 1 _ rfl; (with_reducible repeat (first | refine blk_drewN ?_ _ | refine blk_drew ?_ | refine blk_alloc ?_ _)); refine blk_put (cs := #[.slice none 0 0, .slice none 0 0]) ?_ 0 _ rfl; (with_reducible repeat (first | refine blk_drewN ?_ _ | refine blk_drew ?_ | refine blk_alloc ?_ _)); exact BK199.out) Try.underlying40 rfl (by kernel_rfl)) rfl ?_
           exact ⟨_, _, by first | rfl | (simp [errW_none, errW_some] <;> rfl) | (simp [*, errW_none, errW_some] <;> rfl), by (with_reducible repeat (first | apply Kd.R_alloc | apply Kd.R_drewN | apply Kd.R_drew)); exact Kd.R_mono (Kd.R_far (p := ⟨gb199, 1, none⟩) (Kd.R_far (p := ⟨gb199, 0, none⟩) (Kd.R_types HO_207000.out BK199.out (by decide)) (fun _ hk => hk.2) (.slice Ao65 x207000_1.length co65)) (fun _ hk => hk.2) (.slice (some ⟨go58, 0, none⟩) x207001_1.length co19)) (fun _ hk => trivial), by (with_reducible repeat (first | apply Kd.S_alloc | apply Kd.S_drewN | apply Kd.S_drew)); exact Kd.S_mono (Kd.S_far (p := ⟨gb199, 1, none⟩) (Kd.S_far (p := ⟨gb199, 0, none⟩) (Kd.S_types HO_207001.out BK199.out (by decide)) (fun _ hk => hk.2) (.slice Ao65 x207000_1.length co65)) (fun _ hk => hk.2) (.slice (some ⟨go58, 0, none⟩) x207001_1.length co19)) (fun _ hk => hk.1), by repeat (first | (with_reducible first | exact HB.out | apply below_alloc | apply pw_below_drewN | apply below_drew1 | refine below_set ?_ GE198.out | refine below_set ?_ GE199.out | refine below_set ?_ GE206.out) | exact HB.out)⟩
          ·rw [if_neg c52] at H
           exact absurd H (by simp)
         ·rw [if_neg c51] at H
          have c51b0 : (x8_2 == ((rd_L1 x207001_1 x7_1).length : Int)) = false := beq_eq_false_iff_ne.mpr c51
          have c51b1 : (x8_2 != ((rd_L1 x207001_1 x7_1).length : Int)) = true := bne_iff_ne.mpr c51
          by_cases c68 : 0 ≤ x8_2
          ·rw [if_pos c68] at H
           exact absurd H (by simp)
          ·rw [if_neg c68] at H
           exact absurd H (by simp)
       ·rw [if_neg c21] at H
        exact absurd H (by simp)
      ·rw [if_neg c20] at H
       exact absurd H (by simp)
   ·rw [if_neg c15] at H
    have c15b0 : decide (x7_1 < (x207001_1.length : Int)) = false := decide_eq_false c15
    clear c15
    obtain ⟨y207, hy207⟩ : ∃ y_ : List Int, y_ = (([x1_1] : List Int)) := ⟨_, rfl⟩
    replace H : (if x207001_1.length < 5864062014805 then ((some (x207001_1 ++ [y207] : List (List Int))).bind fun y210 => (some (x207000_1, y210, wrap64 ((y210.length : Int) - 1)))) else (none)) = some (r1, r2, r3) := by first | (rw [hy207]; with_reducible exact H) | (have H2_ := (Option.bind_some _ _).symm.trans H; rw [hy207]; with_reducible exact H2_) | (have H2_ := (Option.bind_some _ _).symm.trans H; with_reducible exact H2_) | with_reducible exact H | (rw [hy207]; exact H) | exact H
    have Ny207 := Aside0.mk hy207
    clear hy207
    by_cases c69 : x207001_1.length < 5864062014805
    ·rw [if_pos c69] at H
     have LMc69 := Aside0.mk c69
     clear c69
     obtain ⟨y210, hy210⟩ : ∃ y_ : List (List Int), y_ = (x207001_1 ++ [y207]) := ⟨_, rfl⟩
     replace H : (some (x207000_1, y210, wrap64 ((y210.length : Int) - 1))) = some (r1, r2, r3) := by first | (rw [hy210]; with_reducible exact H) | (have H2_ := (Option.bind_some _ _).symm.trans H; rw [hy210]; with_reducible exact H2_) | (have H2_ := (Option.bind_some _ _).symm.trans H; with_reducible exact H2_) | with_reducible exact H | (rw [hy210]; exact H) | exact H
     have Ny210 := Aside0.mk hy210
     clear hy210
     simp only [Option.some.injEq, Prod.mk.injEq] at H
     obtain ⟨rfl, rfl, rfl⟩ := H
     have hnb70 := NB206_198.out
     have hnc70 := NB198_206.out
     have hnb71 := NB206_199.out
     have hnc71 := NB199_206.out
     have hcz72_0 : wr.cell? ⟨gb206, 0, none⟩ = some (u207000) := (blk_cell BK206.out 0).trans rfl
     have hcz72_1 : wr.cell? ⟨gb206, 1, none⟩ = some (u207001) := (blk_cell BK206.out 1).trans rfl
     have hfz72_0 := blk_frozen BK206.out 0
     have hfz72_1 := blk_frozen BK206.out 1
     obtain ⟨Ao73, co73, eo73⟩ := Kd.S_slice HO_207001.out
     subst eo73
     try go_wp2_with (first | ((with_reducible refine gate_dst (N := 83) rfl ?_); refine Kd.R_lit (Kd.int .i64) _ 3 ?hg (N := 83) ?hd (xs := ([x1_1] : List Int)) (inner := [.int .i64 x1_1]) (ok := fun _ => True) (okp := fun _ => True) ?hr ?hp (fun _ hk => hk) trivial (Below.refl _ _) (Nat.le_refl _) (by simp) ?_; (case hd => rfl); (case hg => rfl); (case hr => first | (go_simp; done) | (go_simp; rfl)); (case hp => exact (Reps.one (show Kd.M (Kd.int .i64) _ _ _ x1_1 [.int .i64 x1_1] from rfl) (Reps.none _ _))); intro v208 w74 ho75 hb hg_ hnew_; clear hg_ hnew_; (first | rw [← Ny207.out] at ho75 | (simp only [Int.reduceToNat] at ho75; rw [← Ny207.out] at ho75)); have n0_ := Aside0.mk (Kd.R_elder' (by (with_reducible repeat (first | apply Kd.R_alloc | apply Kd.R_drewN | apply Kd.R_drew)); exact HO_207000.out) (Kd.R_base ho75) hb); have n1_ := Aside0.mk (Kd.S_elder' (by (with_reducible repeat (first | apply Kd.S_alloc | apply Kd.S_drewN | apply Kd.S_drew)); exact HO_207001.out) (Kd.R_base ho75) hb); have n2_ := Aside0.mk (Kd.R_lower (Kd.R_new' ho75 (Kd.R_lt (by (with_reducible repeat (first | apply Kd.R_alloc | apply Kd.R_drewN | apply Kd.R_drew)); exact HO_207000.out))) (below_size (by repeat (first | (with_reducible first | exact HB.out | apply below_alloc | apply pw_below_drewN | apply below_drew1 | refine below_set ?_ GE198.out | refine below_set ?_ GE199.out | refine below_set ?_ GE206.out) | exact HB.out)))); have n3_ := Aside0.mk (blk_below (g := gb198) (o := .cells #[.slice A0_0 l0_0.length c0_0, .slice A0_1 l0_1.length c0_1] 40 (0, 0)) (by (with_reducible repeat (first | refine blk_drewN ?_ _ | refine blk_drew ?_ | refine blk_alloc ?_ _)); exact BK198.out) hb); have n4_ := Aside0.mk (blk_below (g := gb199) (o := .cells #[.slice none 0 0, .slice none 0 0] 40 (0, 0)) (by (with_reducible repeat (first | refine blk_drewN ?_ _ | refine blk_drew ?_ | refine blk_alloc ?_ _)); exact BK199.out) hb); have n5_ := Aside0.mk (blk_below (g := gb206) (o := .cells #[u207000, .slice Ao73 x207001_1.length co73] 40 (0, 0)) (by (with_reducible repeat (first | refine blk_drewN ?_ _ | refine blk_drew ?_ | refine blk_alloc ?_ _)); exact BK206.out) hb); have n6_ := Aside0.mk (below_step (by repeat (first | (with_reducible first | exact HB.out | apply below_alloc | apply pw_below_drewN | apply below_drew1 | refine below_set ?_ GE198.out | refine below_set ?_ GE199.out | refine below_set ?_ GE206.out) | exact HB.out)) hb); clear HO_207000; clear HO_207001; clear BK198; clear BK199; clear BK206; clear HB; have HO_207000 := n0_; have HO_207001 := n1_; have HO209 := n2_; have BK198 := n3_; have BK199 := n4_; have BK206 := n5_; have HB := n6_; clear n0_ n1_ n2_ n3_ n4_ n5_ n6_; clear hb ho75; obtain ⟨Ao77, co77, eo77⟩ := Kd.R_slice HO209.out; subst eo77) | ((with_reducible refine gate_builtin (b := .append) (xs := #[.tmp 81, .tmp 84]) rfl ?_); at_builtin; refine Kd.S_append (Kd.slice 3 (Kd.int .i64)) (w0 := w) w.heap.size rfl (.tmp 81) (.tmp 84) 27 22 (.slice none 0 0) 24 rfl Try.underlying27 info22 rfl (by decide) (by omega) (.slice Ao73 x207001_1.length co73) x207001_1 y207 [.slice Ao77 y207.length co77] (fun k_ => some k_ ≠ (u207000 : Value).ownBlock) (fun k_ => some k_ = (.slice Ao77 y207.length co77 : Value).ownBlock) rfl rfl ?aP (fun k_ hk_ => ((Kd.R_mono (ok' := fun k_ => ((fun k_ => some k_ ≠ (u207000 : Value).ownBlock)) k_ ∧ some k_ ≠ (.slice Ao73 x207001_1.length co73 : Value).ownBlock) (Kd.R_apart' (HO209.out) (Kd.S_typed HO_207001.out) (by decide)) (fun k_ hk => ⟨hk.1.2, hk.2⟩))).1 k_ hk_.symm) ?aF ?aO ?aB ?aS ?aL ?_; (case aP => exact Kd.M_row (Kd.R_mono (Kd.R_tight rfl (Kd.R_mono (ok' := fun k_ => ((fun k_ => some k_ ≠ (u207000 : Value).ownBlock)) k_ ∧ some k_ ≠ (.slice Ao73 x207001_1.length co73 : Value).ownBlock) (Kd.R_apart' (HO209.out) (Kd.S_typed HO_207001.out) (by decide)) (fun k_ hk => ⟨hk.1.2, hk.2⟩))) (fun _ h_ => h_))); (case aB => exact (by repeat (first | (with_reducible first | exact HB.out | apply below_alloc | apply pw_below_drewN | apply below_drew1 | refine below_set ?_ GE198.out | refine below_set ?_ GE199.out | refine below_set ?_ GE206.out) | exact HB.out))); (case aF => exact (fun k_ hk => Kd.fresh' (Kd.R_lt (by (with_reducible repeat (first | apply Kd.R_alloc | apply Kd.R_drewN | apply Kd.R_drew)); exact HO_207000.out)) k_ hk)); (case aO => exact (by (with_reducible repeat (first | apply Kd.S_alloc | apply Kd.S_drewN | apply Kd.S_drew)); exact Kd.S_mono HO_207001.out (fun k_ hk => ⟨hk.1, fun e_ => hk.2 e_⟩))); (case aS => exact (below_size (by repeat (first | (with_reducible first | exact HB.out | apply below_alloc | apply pw_below_drewN | apply below_drew1 | refine below_set ?_ GE198.out | refine below_set ?_ GE199.out | refine below_set ?_ GE206.out) | exact HB.out)))); (case aL => have := LMc69.out; omega); intro v211 w76 ho hb hg hat; rw [← Ny210.out] at ho; have n0_ := Aside0.mk (Kd.R_over' (by (with_reducible repeat (first | apply Kd.R_alloc | apply Kd.R_drewN | apply Kd.R_drew)); exact HO_207000.out) (Kd.S_typed (by (with_reducible repeat (first | apply Kd.S_alloc | apply Kd.S_drewN | apply Kd.S_drew)); exact HO_207001.out)) (by decide) hg); have n1_ := Aside0.mk (blk_grown (g := gb198) (o := .cells #[.slice A0_0 l0_0.length c0_0, .slice A0_1 l0_1.length c0_1] 40 (0, 0)) (by (with_reducible repeat (first | refine blk_drewN ?_ _ | refine blk_drew ?_ | refine blk_alloc ?_ _)); exact BK198.out) hg (Kd.S_ne HO_207001.out BK198.out (by decide))); have n2_ := Aside0.mk (blk_grown (g := gb199) (o := .cells #[.slice none 0 0, .slice none 0 0] 40 (0, 0)) (by (with_reducible repeat (first | refine blk_drewN ?_ _ | refine blk_drew ?_ | refine blk_alloc ?_ _)); exact BK199.out) hg (Kd.S_ne HO_207001.out BK199.out (by decide))); have n3_ := Aside0.mk (blk_grown (g := gb206) (o := .cells #[u207000, .slice Ao73 x207001_1.length co73] 40 (0, 0)) (by (with_reducible repeat (first | refine blk_drewN ?_ _ | refine blk_drew ?_ | refine blk_alloc ?_ _)); exact BK206.out) hg (Kd.S_ne HO_207001.out BK206.out (by decide))); have n4_ := Aside0.mk (hb); have n5_ := Aside0.mk (ho); clear HO_207000; clear BK198; clear BK199; clear BK206; clear HB; clear HO_207001; clear HO209; have HO_207000 := n0_; have BK198 := n1_; have BK199 := n2_; have BK206 := n3_; have HB := n4_; have HO212 := n5_; clear n0_ n1_ n2_ n3_ n4_ n5_; clear ho hb hg hat; obtain ⟨Ao78, co78, eo78⟩ := Kd.S_slice HO212.out; subst eo78; have hcz79_0 : w76.cell? ⟨gb206, 0, none⟩ = some (u207000) := (blk_cell BK206.out 0).trans rfl; have hcz79_1 : w76.cell? ⟨gb206, 1, none⟩ = some (.slice Ao73 x207001_1.length co73) := (blk_cell BK206.out 1).trans rfl; have hfz79_0 := blk_frozen BK206.out 0; have hfz79_1 := blk_frozen BK206.out 1))
     have n0_ : Aside0 (Kd.R (Kd.int .i64) 3 (w76.setCell ⟨gb206, 1, none⟩ (.slice Ao78 y210.length co78)) w.heap.size (fun _ => True) u207000 x207000_1) := ⟨by (with_reducible repeat (first | apply Kd.R_alloc | apply Kd.R_drewN | apply Kd.R_drew)); exact Kd.R_mono (Kd.R_far (p := ⟨gb206, 1, none⟩) (Kd.R_types HO_207000.out BK206.out (by decide)) (fun _ hk => hk.2) (.slice Ao78 y210.length co78)) (fun _ hk => trivial)⟩
     have n1_ : Aside0 (Kd.S (Kd.slice 3 (Kd.int .i64)) 22 (w76.setCell ⟨gb206, 1, none⟩ (.slice Ao78 y210.length co78)) w.heap.size (fun k_ => some k_ ≠ (u207000 : Value).ownBlock) (.slice Ao78 y210.length co78) y210) := ⟨by (with_reducible repeat (first | apply Kd.S_alloc | apply Kd.S_drewN | apply Kd.S_drew)); exact Kd.S_mono (Kd.S_far (p := ⟨gb206, 1, none⟩) (Kd.S_types HO212.out BK206.out (by decide)) (fun _ hk => hk.2) (.slice Ao78 y210.length co78)) (fun _ hk => hk.1)⟩
     have n2_ : Aside0 ((w76.setCell ⟨gb206, 1, none⟩ (.slice Ao78 y210.length co78)).heap[gb198]? = some (.cells #[.slice A0_0 l0_0.length c0_0, .slice A0_1 l0_1.length c0_1] 40 (0, 0))) := ⟨by (with_reducible repeat (first | refine blk_drewN ?_ _ | refine blk_drew ?_ | refine blk_alloc ?_ _)); refine blk_far ?_ NB198_206.out _; (with_reducible repeat (first | refine blk_drewN ?_ _ | refine blk_drew ?_ | refine blk_alloc ?_ _)); exact BK198.out⟩
     have n3_ : Aside0 ((w76.setCell ⟨gb206, 1, none⟩ (.slice Ao78 y210.length co78)).heap[gb199]? = some (.cells #[.slice none 0 0, .slice none 0 0] 40 (0, 0))) := ⟨by (with_reducible repeat (first | refine blk_drewN ?_ _ | refine blk_drew ?_ | refine blk_alloc ?_ _)); refine blk_far ?_ NB199_206.out _; (with_reducible repeat (first | refine blk_drewN ?_ _ | refine blk_drew ?_ | refine blk_alloc ?_ _)); exact BK199.out⟩
     have n4_ : Aside0 ((w76.setCell ⟨gb206, 1, none⟩ (.slice Ao78 y210.length co78)).heap[gb206]? = some (.cells #[u207000, .slice Ao78 y210.length co78] 40 (0, 0))) := ⟨by (with_reducible repeat (first | refine blk_drewN ?_ _ | refine blk_drew ?_ | refine blk_alloc ?_ _)); refine blk_put (cs := #[u207000, .slice Ao73 x207001_1.length co73]) ?_ 1 _ rfl; (with_reducible repeat (first | refine blk_drewN ?_ _ | refine blk_drew ?_ | refine blk_alloc ?_ _)); exact BK206.out⟩
     have n5_ : Aside0 (Below w.heap.size w (w76.setCell ⟨gb206, 1, none⟩ (.slice Ao78 y210.length co78))) := ⟨by repeat (first | (with_reducible first | exact HB.out | apply below_alloc | apply pw_below_drewN | apply below_drew1 | refine below_set ?_ GE198.out | refine below_set ?_ GE199.out | refine below_set ?_ GE206.out) | exact HB.out)⟩
     (try clear HO_207000)
     (try clear HO212)
     (try clear BK198)
     (try clear BK199)
     (try clear BK206)
     (try clear HB)
     generalize (w76.setCell ⟨gb206, 1, none⟩ (.slice Ao78 y210.length co78)) = w80 at n0_ n1_ n2_ n3_ n4_ n5_ ⊢
     have HO_207000 := n0_
     have HO212 := n1_
     have BK198 := n2_
     have BK199 := n3_
     have BK206 := n4_
     have HB := n5_
     clear n0_ n1_ n2_ n3_ n4_ n5_
     have n0_ := Aside0.mk (Kd.R_drew HO_207000.out)
     have n1_ := Aside0.mk (Kd.S_drew HO212.out)
     have n2_ := Aside0.mk (blk_drew BK198.out)
     have n3_ := Aside0.mk (blk_drew BK199.out)
     have n4_ := Aside0.mk (blk_drew BK206.out)
     have n5_ := Aside0.mk (below_drew1 HB.out)
     clear HO_207000
     clear HO212
     clear BK198
     clear BK199
     clear BK206
     clear HB
     have HO_207000 := n0_
     have HO212 := n1_
     have BK198 := n2_
     have BK199 := n3_
     have BK206 := n4_
     have HB := n5_
     clear n0_ n1_ n2_ n3_ n4_ n5_
     obtain ⟨Ao82, co82, eo82⟩ := Kd.R_slice HO_207000.out
     (first | subst eo82 | (injection eo82 with f1_ f2_ f3_; have f4_ := f1_.symm; have f5_ := f3_.symm; clear f1_ f2_ f3_; subst f4_; subst f5_))
     refine start_ (n := 7) (S := fun w' => w'.cell? ⟨gb206, 0, none⟩ = some (.slice Ao82 x207000_1.length co82) ∧ w'.cell? ⟨gb206, 1, none⟩ = some (.slice Ao78 y210.length co78)) (ds := []) #[false, false, false, false, false, false, false] (by kernel_rfl) rfl rfl ⟨(blk_cell BK206.out 0).trans rfl, (blk_cell BK206.out 1).trans rfl⟩ (fun hHeld => ?_)
     generalize w80.drew = w81 at HO_207000 HO212 BK198 BK199 BK206 HB hHeld ⊢
     refine pure_ (i := 1) (N := some 88) (v := ?_) (a' := ?_) #[false, true, false, false, false, false, false] rfl rfl (by kernel_rfl) (fun _ _ _ h => h) (Or.inl ⟨by rfl, ?_⟩) ?_ ?_
     rotate_left
     ·intro w'
      go_simp
      with_reducible rfl
     rotate_left
     ·simp only [Act.put, List.setIfInBounds_toArray, List.set_cons_zero, List.set_cons_succ, i64_w, i32_w]
      rfl
     refine take_ (i := 0) (N := some 87) (v := ?_) (a' := ?_) #[true, true, false, false, false, false, false] rfl rfl (by kernel_rfl) (fun _ _ _ h => h) (Or.inl ⟨by rfl, ?_⟩) hHeld ?_ ?_
     rotate_left
     ·rintro w' ⟨s0, s1⟩
      go_simp
      with_reducible rfl
     rotate_left
     ·simp only [Act.put, List.setIfInBounds_toArray, List.set_cons_zero, List.set_cons_succ, i64_w, i32_w]
      rfl
     refine take_ (i := 2) (N := some 89) (v := ?_) (a' := ?_) #[true, true, true, false, false, false, false] rfl rfl (by kernel_rfl) (fun _ _ _ h => h) (Or.inl ⟨by rfl, ?_⟩) hHeld ?_ ?_
     rotate_left
     ·rintro w' ⟨s0, s1⟩
      go_simp
      with_reducible rfl
     rotate_left
     ·simp only [Act.put, List.setIfInBounds_toArray, List.set_cons_zero, List.set_cons_succ, i64_w, i32_w]
      rfl
     refine pure_ (i := 3) (N := some 90) (v := ?_) (a' := ?_) #[true, true, true, true, false, false, false] rfl rfl (by kernel_rfl) (fun _ _ _ h => h) (Or.inl ⟨by rfl, ?_⟩) ?_ ?_
     rotate_left
     ·intro w'
      go_simp
      with_reducible rfl
     rotate_left
     ·simp only [Act.put, List.setIfInBounds_toArray, List.set_cons_zero, List.set_cons_succ, i64_w, i32_w]
      rfl
     refine pure_ (i := 4) (N := some 91) (v := ?_) (a' := ?_) #[true, true, true, true, true, false, false] rfl rfl (by kernel_rfl) (fun _ _ _ h => h) (Or.inl ⟨by rfl, ?_⟩) ?_ ?_
     rotate_left
     ·intro w'
      go_simp
      with_reducible rfl
     rotate_left
     ·simp only [Act.put, List.setIfInBounds_toArray, List.set_cons_zero, List.set_cons_succ, i64_w, i32_w]
      rfl
     refine one_ (i := 5) (N := none) #[true, true, true, true, true, true, false] rfl rfl (by kernel_rfl) (by decide) (fun K hK => ?_)
     have hs83 : w81.cell? ⟨gb199, 0, none⟩ = some (.slice none 0 0) := (blk_cell BK199.out 0).trans rfl
     have hfs83 := blk_frozen BK199.out 0
     have hns83_0 := NB198_199.out
     have hns83_2 := NB206_199.out
     have hms83_0 := NB199_198.out
     have hms83_2 := NB199_206.out
     have hs84 : w81.cell? ⟨gb199, 1, none⟩ = some (.slice none 0 0) := (blk_cell BK199.out 1).trans rfl
     have hfs84 := blk_frozen BK199.out 1
     have hns84_0 := NB198_199.out
     have hns84_2 := NB206_199.out
     have hms84_0 := NB199_198.out
     have hms84_2 := NB199_206.out
     refine skip_ (w1 := ?_) (by rfl) rfl ?_ ?_
     rotate_left
     ·go_simp
      rfl
     refine hK.out _ _ ⟨((cell_far (p := ⟨gb199, _, none⟩) NB206_199.out _).trans (((cell_far (p := ⟨gb199, _, none⟩) NB206_199.out _).trans (hHeld.1)))), ((cell_far (p := ⟨gb199, _, none⟩) NB206_199.out _).trans (((cell_far (p := ⟨gb199, _, none⟩) NB206_199.out _).trans (hHeld.2))))⟩ (fun hHeld => ?_)
     clear hK K
     refine pure_ (i := 6) (N := some 5) (v := ?_) (a' := ?_) #[true, true, true, true, true, true, true] rfl rfl (by kernel_rfl) (fun _ _ _ h => h) (Or.inl ⟨by rfl, ?_⟩) ?_ ?_
     rotate_left
     ·intro w'
      go_simp
      with_reducible rfl
     rotate_left
     ·simp only [Act.put, List.setIfInBounds_toArray, List.set_cons_zero, List.set_cons_succ, i64_w, i32_w]
      rfl
     refine done_ (by kernel_rfl) ?_
     try go_wp2
     refine bodyPost_ret (results_ct rfl _ _ gb199 40 #[.slice Ao82 x207000_1.length co82, .slice Ao78 y210.length co78] (0, 0) _ rfl (by (with_reducible repeat (first | refine blk_drewN ?_ _ | refine blk_drew ?_ | refine blk_alloc ?_ _)); refine blk_put (cs := #[.slice Ao82 x207000_1.length co82, .slice none 0 0]) ?_ 1 _ rfl; (with_reducible repeat (first | refine blk_drewN ?_ _ | refine blk_drew ?_ | refine blk_alloc ?_ _)); refine blk_put (cs := #[.slice none 0 0, .slice none 0 0]) ?_ 0 _ rfl; (with_reducible repeat (first | refine blk_drewN ?_ _ | refine blk_drew ?_ | refine blk_alloc ?_ _)); exact BK199.out) Try.underlying40 rfl (by kernel_rfl)) rfl ?_
     exact ⟨_, _, by first | rfl | (simp [errW_none, errW_some] <;> rfl) | (simp [*, errW_none, errW_some] <;> rfl), by (with_reducible repeat (first | apply Kd.R_alloc | apply Kd.R_drewN | apply Kd.R_drew)); exact Kd.R_mono (Kd.R_far (p := ⟨gb199, 1, none⟩) (Kd.R_far (p := ⟨gb199, 0, none⟩) (Kd.R_types HO_207000.out BK199.out (by decide)) (fun _ hk => hk.2) (.slice Ao82 x207000_1.length co82)) (fun _ hk => hk.2) (.slice Ao78 y210.length co78)) (fun _ hk => trivial), by (with_reducible repeat (first | apply Kd.S_alloc | apply Kd.S_drewN | apply Kd.S_drew)); exact Kd.S_mono (Kd.S_far (p := ⟨gb199, 1, none⟩) (Kd.S_far (p := ⟨gb199, 0, none⟩) (Kd.S_types HO212.out BK199.out (by decide)) (fun _ hk => hk.2) (.slice Ao82 x207000_1.length co82)) (fun _ hk => hk.2) (.slice Ao78 y210.length co78)) (fun _ hk => hk.1), by repeat (first | (with_reducible first | exact HB.out | apply below_alloc | apply pw_below_drewN | apply below_drew1 | refine below_set ?_ GE198.out | refine below_set ?_ GE199.out | refine below_set ?_ GE206.out) | exact HB.out)⟩
    ·rw [if_neg c69] at H
     exact absurd H (by simp)

end Go.Proofs.Ytekjnjejgefbhaa.F
