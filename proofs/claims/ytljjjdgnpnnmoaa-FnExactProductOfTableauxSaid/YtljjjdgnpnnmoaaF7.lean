/- For each Go function named below: the plain Lean function that it computes, and that its call returns just that; conditions: those that each theorem names. -/
import Derived.Test.YtljjjdgnpnnmoaaF0
import Derived.Test.YtljjjdgnpnnmoaaF6
namespace Go.Proofs.Ytljjjdgnpnnmoaa.F
open Go.RowKit Go.Proofs.YtljjjdgnpnnmoaaW.PrintWords Go.Proofs.YtljjjdgnpnnmoaaW.PrintLast Go.Proofs.YtljjjdgnpnnmoaaW.PrintMore
attribute [local go_sem] max2_int min2_int max_two min_two max_three min_three max_four min_four   -- for this text's walks alone
set_option linter.unusedVariables false
set_option linter.unusedSimpArgs false
abbrev zB7_0 : Array Bool := #[false, false, false, false, false, false, false, false, false, false, false, false, false]
abbrev zB7_1 : Array Bool := #[true, false, false, false, false, false, false, false, false, false, false, false, false]
abbrev zB7_2 : Array Bool := #[true, false, true, false, false, false, false, false, false, false, false, false, false]
abbrev zB7_3 : Array Bool := #[true, false, true, true, false, false, false, false, false, false, false, false, false]
abbrev zB7_4 : Array Bool := #[true, false, true, true, false, true, false, false, false, false, false, false, false]
abbrev zB7_5 : Array Bool := #[true, false, true, true, false, true, false, false, true, false, false, false, false]
abbrev zB7_6 : Array Bool := #[true, true, true, true, false, true, false, false, true, false, false, false, false]
abbrev zB7_7 : Array Bool := #[true, true, true, true, true, true, false, false, true, false, false, false, false]
abbrev zB7_8 : Array Bool := #[true, true, true, true, true, true, true, false, true, false, false, false, false]
abbrev zB7_9 : Array Bool := #[true, true, true, true, true, true, true, true, true, false, false, false, false]
abbrev zB7_10 : Array Bool := #[true, true, true, true, true, true, true, true, true, true, false, false, false]
abbrev zB7_11 : Array Bool := #[true, true, true, true, true, true, true, true, true, true, true, false, false]
abbrev zB7_12 : Array Bool := #[true, true, true, true, true, true, true, true, true, true, true, true, false]
abbrev zB7_13 : Array Bool := #[true, true, true, true, true, true, true, true, true, true, true, true, true]

mutual
def spec_l9Insert.l0 : Nat → Int → Int → List Int → List (List Int) → Option (List Int × (List (List Int)) × Int)
 | 0, _, _, _, _ => none
 | k + 1, x1, x7, x237000, x237001 => if x7 < (x237001.length : Int) then (spec_l9Insert.l1 k x1 x7 0 x237000 x237001) else (if x237001.length < 5864062014805 then ((some (x237001 ++ [(([x1] : List Int))] : List (List Int))).bind fun y240 => (some (x237000, y240, wrap64 ((y240.length : Int) - 1)))) else (none))
def spec_l9Insert.l1 : Nat → Int → Int → Int → List Int → List (List Int) → Option (List Int × (List (List Int)) × Int)
 | 0, _, _, _, _, _ => none
 | k + 1, x1, x7, x8, x237000, x237001 => if 0 ≤ x7 then (if x7 < (x237001.length : Int) then (if x8 < ((rd_L1 x237001 x7).length : Int) then (if 0 ≤ x8 then (if (rd (rd_L1 x237001 x7) x8) ≤ x1 then (spec_l9Insert.l1 k x1 x7 (wrap64 (x8 + 1)) x237000 x237001) else (if x8 = ((rd_L1 x237001 x7).length : Int) then (if (rd_L1 x237001 x7).length < 17592186044416 then (some (x237000, (x237001.set (x7 : Int).toNat ((rd_L1 x237001 x7) ++ [x1])), x7)) else (none)) else (spec_l9Insert.l0 k (rd (rd_L1 x237001 x7) x8) (wrap64 (x7 + 1)) x237000 (x237001.set (x7 : Int).toNat ((rd_L1 x237001 x7).set (x8 : Int).toNat x1))))) else (none)) else (if x8 = ((rd_L1 x237001 x7).length : Int) then (if (rd_L1 x237001 x7).length < 17592186044416 then (some (x237000, (x237001.set (x7 : Int).toNat ((rd_L1 x237001 x7) ++ [x1])), x7)) else (none)) else (if 0 ≤ x8 then (none) else (none)))) else (none)) else (none)
end
def spec_l9Insert.f (k : Nat) (l0_0 : List Int) (l0_1 : List (List Int)) (a1 : Int) : Option (List Int × (List (List Int)) × Int) := (spec_l5Copy.f k l0_0 l0_1).bind fun bt230 => (spec_l9Insert.l0 k a1 0 bt230.1 bt230.2)
theorem spec_l9Insert.mono_l : ∀ k, (∀ y0 y1 y2 y3, LeO (spec_l9Insert.l0 k y0 y1 y2 y3) (spec_l9Insert.l0 (k + 1) y0 y1 y2 y3)) ∧ (∀ y0 y1 y2 y3 y4, LeO (spec_l9Insert.l1 k y0 y1 y2 y3 y4) (spec_l9Insert.l1 (k + 1) y0 y1 y2 y3 y4))
 | 0 => ⟨fun _ _ _ _ r h => by simp [spec_l9Insert.l0] at h, fun _ _ _ _ _ r h => by simp [spec_l9Insert.l1] at h⟩
 | k + 1 => by
  obtain ⟨ih0, ih1⟩ := spec_l9Insert.mono_l k
  refine ⟨?_, ?_⟩
  ·intro y0 y1 y2 y3
   unfold spec_l9Insert.l0
   repeat' first
   | (with_reducible exact ih0 _ _ _ _)
   | (with_reducible exact ih1 _ _ _ _ _)
   | (with_reducible exact spec_l5Copy.mono _ _ _)
   | (with_reducible exact LeO.refl _)
   | (with_reducible exact LeO.none _)
   | (with_reducible refine LeO.ite ?_ ?_)
   | (with_reducible refine LeO.bind ?_ (fun _ => ?_))
   | exact ih0 _ _ _ _
   | exact ih1 _ _ _ _ _
   | exact spec_l5Copy.mono _ _ _
   | exact LeO.none _
   | refine LeO.ite ?_ ?_
   | refine LeO.bind ?_ (fun _ => ?_)
  ·intro y0 y1 y2 y3 y4
   unfold spec_l9Insert.l1
   repeat' first
   | (with_reducible exact ih0 _ _ _ _)
   | (with_reducible exact ih1 _ _ _ _ _)
   | (with_reducible exact spec_l5Copy.mono _ _ _)
   | (with_reducible exact LeO.refl _)
   | (with_reducible exact LeO.none _)
   | (with_reducible refine LeO.ite ?_ ?_)
   | (with_reducible refine LeO.bind ?_ (fun _ => ?_))
   | exact ih0 _ _ _ _
   | exact ih1 _ _ _ _ _
   | exact spec_l5Copy.mono _ _ _
   | exact LeO.none _
   | refine LeO.ite ?_ ?_
   | refine LeO.bind ?_ (fun _ => ?_)
theorem spec_l9Insert.mono : ∀ a0 a1 a2 k, LeO (spec_l9Insert.f k a0 a1 a2) (spec_l9Insert.f (k + 1) a0 a1 a2) := by
 intro a0 a1 a2 k
 obtain ⟨ih0, ih1⟩ := spec_l9Insert.mono_l k
 unfold spec_l9Insert.f
 repeat' first
   | (with_reducible exact ih0 _ _ _ _)
   | (with_reducible exact ih1 _ _ _ _ _)
   | (with_reducible exact spec_l5Copy.mono _ _ _)
   | (with_reducible exact LeO.refl _)
   | (with_reducible exact LeO.none _)
   | (with_reducible refine LeO.ite ?_ ?_)
   | (with_reducible refine LeO.bind ?_ (fun _ => ?_))
   | exact ih0 _ _ _ _
   | exact ih1 _ _ _ _ _
   | exact spec_l5Copy.mono _ _ _
   | exact LeO.none _
   | refine LeO.ite ?_ ?_
   | refine LeO.bind ?_ (fun _ => ?_)
def spec_l9Insert.T9 : Bool × List (List Nat × List Nat) := (true, [([], []), ([0], [0]), ([], []), ([], []), ([3], [3]), ([], []), ([4, 5], [4, 5]), ([6], [6]), ([], []), ([8], [8]), ([7, 9], [7, 9]), ([1, 2, 0, 1, 2, 3, 4, 5, 6, 7, 8, 9, 10], [1, 2]), ([11, 10, 10, 0, 1, 2, 3, 4, 5, 6, 7, 8, 9, 10], [10, 11])])
def spec_l9Insert.B9 : List Nat := [0, 1, 0, 0, 8, 0, 56, 120, 0, 256, 1016, 2047, 4095]
theorem spec_l9Insert.tab9 : rtab .any (opsOf Try.f102 9) = spec_l9Insert.T9 := by kernel_rfl
theorem spec_l9Insert.bits9 : waitsOk spec_l9Insert.T9.2 spec_l9Insert.B9 = true := by kernel_rfl
set_option maxHeartbeats 8000000 in
set_option maxRecDepth 100000 in
theorem spec_l9Insert.calls (k : Nat) (A0_0 : Option Addr) (c0_0 : Nat) (l0_0 : List Int) (A0_1 : Option Addr) (c0_1 : Nat) (l0_1 : List (List Int)) (a1 : Int) (r1 : List Int) (r2 : List (List Int)) (r3 : Int) (w : World) (hr0_0 : Kd.C (Kd.int .i64) w A0_0 l0_0.length l0_0) (hc0_0 : l0_0.length ≤ c0_0) (hr0_1 : Kd.C (Kd.slice 3 (Kd.int .i64)) w A0_1 l0_1.length l0_1) (hc0_1 : l0_1.length ≤ c0_1) (h : spec_l9Insert.f k l0_0 l0_1 a1 = some (r1, r2, r3)) :
  Calls Try.prog 102 #[.agg #[.slice A0_0 l0_0.length c0_0, .slice A0_1 l0_1.length c0_1], .int .i64 a1] w fun e w' => ∃ v0_ v1_ : Value, e = .returned (.tuple #[.agg #[v0_, v1_], .int .i64 r3]) ∧ Kd.R (Kd.int .i64) 3 w' w.heap.size (fun _ => True) v0_ r1 ∧ Kd.S (Kd.slice 3 (Kd.int .i64)) 22 w' w.heap.size (fun k_ => some k_ ≠ (v0_ : Value).ownBlock) v1_ r2 ∧ Below w.heap.size w w' := by
 have hu28 := Try.underlying28
 have HR0_0 := Aside0.mk hr0_0
 have HC0_0 := Aside0.mk hc0_0
 clear hr0_0 hc0_0
 have HR0_1 := Aside0.mk hr0_1
 have HC0_1 := Aside0.mk hc0_1
 clear hr0_1 hc0_1
 have HB := Aside0.mk (Below.refl w.heap.size w)
 have H : ((spec_l5Copy.f k l0_0 l0_1).bind fun bt230 => (spec_l9Insert.l0 k a1 0 bt230.1 bt230.2)) = some (r1, r2, r3) := h
 clear h
 replace H := Option.bind_eq_some_iff.mp H
 obtain ⟨⟨t230, t233⟩, A30, H⟩ := H
 replace H : (spec_l9Insert.l0 k a1 0 t230 t233) = some (r1, r2, r3) := H
 have A3 := Aside0.mk A30
 clear A30
 have H' := Aside0.mk H
 clear H
 go_enter Try.func102, Try.ntmps102
 go_wp2_with (first | ((with_reducible refine gate_dst (N := 2) rfl ?_); refine zX (N := 2) (cs := #[.slice A0_0 l0_0.length c0_0, .slice A0_1 l0_1.length c0_1]) (t := 28) ?_; intro gb228 hg w4 hbox hb; have n0_ := Aside0.mk (below_step (by repeat (first | (with_reducible first | exact HB.out | apply below_alloc | apply pw_below_drewN | apply below_drew1) | exact HB.out)) hb); have n1_ := Aside0.mk (hbox); have n2_ := Aside0.mk ((by rw [hg]; exact (below_size (by repeat (first | (with_reducible first | exact HB.out | apply below_alloc | apply pw_below_drewN | apply below_drew1) | exact HB.out))) : w.heap.size ≤ gb228)); have n3_ := Aside0.mk ((by rw [hg]; exact (below_size (by repeat (first | (with_reducible first | exact HB.out | apply below_alloc | apply pw_below_drewN | apply below_drew1) | exact HB.out))) : w.heap.size ≤ gb228)); clear HB; have HB := n0_; have BK228 := n1_; have GW228 := n2_; have GE228 := n3_; clear n0_ n1_ n2_ n3_; clear hb hbox hg) | ((with_reducible refine gate_dst (N := 4) rfl ?_); refine zX (N := 4) (cs := #[.slice none 0 0, .slice none 0 0]) (t := 28) ?_; intro gb229 hg w5 hbox hb; have n0_ := Aside0.mk (blk_below (g := gb228) (o := .cells #[.slice A0_0 l0_0.length c0_0, .slice A0_1 l0_1.length c0_1] 28 (0, 0)) (by (with_reducible repeat (first | refine blk_drewN ?_ _ | refine blk_drew ?_ | refine blk_alloc ?_ _)); exact BK228.out) hb); have n1_ := Aside0.mk (below_step (by repeat (first | (with_reducible first | exact HB.out | apply below_alloc | apply pw_below_drewN | apply below_drew1 | refine below_set ?_ GE228.out) | exact HB.out)) hb); have n2_ := Aside0.mk (hbox); have n3_ := Aside0.mk ((by rw [hg]; exact (below_size (by repeat (first | (with_reducible first | exact HB.out | apply below_alloc | apply pw_below_drewN | apply below_drew1 | refine below_set ?_ GE228.out) | exact HB.out))) : w.heap.size ≤ gb229)); have n4_ := Aside0.mk ((by rw [hg]; exact (below_size (by repeat (first | (with_reducible first | exact HB.out | apply below_alloc | apply pw_below_drewN | apply below_drew1 | refine below_set ?_ GE228.out) | exact HB.out))) : w.heap.size ≤ gb229)); have n5_ := Aside0.mk ((by rw [hg]; exact Nat.ne_of_lt (blk_lt (g := gb228) (o := .cells #[.slice A0_0 l0_0.length c0_0, .slice A0_1 l0_1.length c0_1] 28 (0, 0)) (by (with_reducible repeat (first | refine blk_drewN ?_ _ | refine blk_drew ?_ | refine blk_alloc ?_ _)); exact BK228.out)) : gb228 ≠ gb229)); have n6_ := Aside0.mk ((by rw [hg]; exact Nat.ne_of_gt (blk_lt (g := gb228) (o := .cells #[.slice A0_0 l0_0.length c0_0, .slice A0_1 l0_1.length c0_1] 28 (0, 0)) (by (with_reducible repeat (first | refine blk_drewN ?_ _ | refine blk_drew ?_ | refine blk_alloc ?_ _)); exact BK228.out)) : gb229 ≠ gb228)); clear BK228; clear HB; have BK228 := n0_; have HB := n1_; have BK229 := n2_; have GW229 := n3_; have GE229 := n4_; have NB228_229 := n5_; have NB229_228 := n6_; clear n0_ n1_ n2_ n3_ n4_ n5_ n6_; clear hb hbox hg; have hnb6 := NB228_229.out; have hnc6 := NB229_228.out; have hcz7_0 : w5.cell? ⟨gb228, 0, none⟩ = some (.slice A0_0 l0_0.length c0_0) := (blk_cell BK228.out 0).trans rfl; have hcz7_1 : w5.cell? ⟨gb228, 1, none⟩ = some (.slice A0_1 l0_1.length c0_1) := (blk_cell BK228.out 1).trans rfl; have hfz7_0 := blk_frozen BK228.out 0; have hfz7_1 := blk_frozen BK228.out 1) | ((with_reducible refine gate_callee (f := 86) rfl ?_); refine zG (some 11) Try.func86 #[.agg #[.slice A0_0 l0_0.length c0_0, .slice A0_1 l0_1.length c0_1]] ?_; (with_reducible refine (spec_l5Copy.calls k _ _ l0_0 _ _ l0_1 t230 t233 _ ?side1 ?side2 ?side3 ?side4 A3.out).mono ?_); (case side1 => repeat (first | exact (Kd.C_below HR0_0.out HB.out) | (with_reducible refine Kd.C_alloc ?_ _) | (with_reducible refine Kd.C_drewN ?_ _) | (with_reducible refine Kd.C_drew ?_))); (case side2 => exact HC0_0.out); (case side3 => repeat (first | exact (Kd.C_below HR0_1.out HB.out) | (with_reducible refine Kd.C_alloc ?_ _) | (with_reducible refine Kd.C_drewN ?_ _) | (with_reducible refine Kd.C_drew ?_))); (case side4 => exact HC0_1.out); rintro e w8 ⟨v231, v234, rfl, ho0, ho1, hb⟩; refine ⟨_, rfl, ?_⟩; have n0_ := Aside0.mk (Kd.R_lower ho0 (below_size (by repeat (first | (with_reducible first | exact HB.out | apply below_alloc | apply pw_below_drewN | apply below_drew1 | refine below_set ?_ GE228.out | refine below_set ?_ GE229.out) | exact HB.out)))); have n1_ := Aside0.mk (Kd.S_lower ho1 (below_size (by repeat (first | (with_reducible first | exact HB.out | apply below_alloc | apply pw_below_drewN | apply below_drew1 | refine below_set ?_ GE228.out | refine below_set ?_ GE229.out) | exact HB.out)))); have n2_ := Aside0.mk (blk_below (g := gb228) (o := .cells #[.slice A0_0 l0_0.length c0_0, .slice A0_1 l0_1.length c0_1] 28 (0, 0)) (by (with_reducible repeat (first | refine blk_drewN ?_ _ | refine blk_drew ?_ | refine blk_alloc ?_ _)); exact BK228.out) hb); have n3_ := Aside0.mk (blk_below (g := gb229) (o := .cells #[.slice none 0 0, .slice none 0 0] 28 (0, 0)) (by (with_reducible repeat (first | refine blk_drewN ?_ _ | refine blk_drew ?_ | refine blk_alloc ?_ _)); exact BK229.out) hb); have n4_ := Aside0.mk (below_step (by repeat (first | (with_reducible first | exact HB.out | apply below_alloc | apply pw_below_drewN | apply below_drew1 | refine below_set ?_ GE228.out | refine below_set ?_ GE229.out) | exact HB.out)) hb); clear BK228; clear BK229; clear HB; have HO232 := n0_; have HO235 := n1_; have BK228 := n2_; have BK229 := n3_; have HB := n4_; clear n0_ n1_ n2_ n3_ n4_; (try clear hb); (try clear hb2); (try clear hk); (try clear hi); (try clear ho0); (try clear ho1)) | ((with_reducible refine gate_dst (N := 6) rfl ?_); refine zX (N := 6) (cs := #[.slice none 0 0, .slice none 0 0]) (t := 28) ?_; intro gb236 hg w9 hbox hb; have n0_ := Aside0.mk (Kd.R_below (by (with_reducible repeat (first | apply Kd.R_alloc | apply Kd.R_drewN | apply Kd.R_drew)); exact HO232.out) hb); have n1_ := Aside0.mk (Kd.S_below (by (with_reducible repeat (first | apply Kd.S_alloc | apply Kd.S_drewN | apply Kd.S_drew)); exact HO235.out) hb); have n2_ := Aside0.mk (blk_below (g := gb228) (o := .cells #[.slice A0_0 l0_0.length c0_0, .slice A0_1 l0_1.length c0_1] 28 (0, 0)) (by (with_reducible repeat (first | refine blk_drewN ?_ _ | refine blk_drew ?_ | refine blk_alloc ?_ _)); exact BK228.out) hb); have n3_ := Aside0.mk (blk_below (g := gb229) (o := .cells #[.slice none 0 0, .slice none 0 0] 28 (0, 0)) (by (with_reducible repeat (first | refine blk_drewN ?_ _ | refine blk_drew ?_ | refine blk_alloc ?_ _)); exact BK229.out) hb); have n4_ := Aside0.mk (below_step (by repeat (first | (with_reducible first | exact HB.out | apply below_alloc | apply pw_below_drewN | apply below_drew1 | refine below_set ?_ GE228.out | refine below_set ?_ GE229.out) | exact HB.out)) hb); have n5_ := Aside0.mk (hbox); have n6_ := Aside0.mk ((by rw [hg]; exact (below_size (by repeat (first | (with_reducible first | exact HB.out | apply below_alloc | apply pw_below_drewN | apply below_drew1 | refine below_set ?_ GE228.out | refine below_set ?_ GE229.out) | exact HB.out))) : w.heap.size ≤ gb236)); have n7_ := Aside0.mk ((by rw [hg]; exact (below_size (by repeat (first | (with_reducible first | exact HB.out | apply below_alloc | apply pw_below_drewN | apply below_drew1 | refine below_set ?_ GE228.out | refine below_set ?_ GE229.out) | exact HB.out))) : w.heap.size ≤ gb236)); have n8_ := Aside0.mk ((by rw [hg]; exact Nat.ne_of_lt (blk_lt (g := gb228) (o := .cells #[.slice A0_0 l0_0.length c0_0, .slice A0_1 l0_1.length c0_1] 28 (0, 0)) (by (with_reducible repeat (first | refine blk_drewN ?_ _ | refine blk_drew ?_ | refine blk_alloc ?_ _)); exact BK228.out)) : gb228 ≠ gb236)); have n9_ := Aside0.mk ((by rw [hg]; exact Nat.ne_of_gt (blk_lt (g := gb228) (o := .cells #[.slice A0_0 l0_0.length c0_0, .slice A0_1 l0_1.length c0_1] 28 (0, 0)) (by (with_reducible repeat (first | refine blk_drewN ?_ _ | refine blk_drew ?_ | refine blk_alloc ?_ _)); exact BK228.out)) : gb236 ≠ gb228)); have n10_ := Aside0.mk ((by rw [hg]; exact Nat.ne_of_lt (blk_lt (g := gb229) (o := .cells #[.slice none 0 0, .slice none 0 0] 28 (0, 0)) (by (with_reducible repeat (first | refine blk_drewN ?_ _ | refine blk_drew ?_ | refine blk_alloc ?_ _)); exact BK229.out)) : gb229 ≠ gb236)); have n11_ := Aside0.mk ((by rw [hg]; exact Nat.ne_of_gt (blk_lt (g := gb229) (o := .cells #[.slice none 0 0, .slice none 0 0] 28 (0, 0)) (by (with_reducible repeat (first | refine blk_drewN ?_ _ | refine blk_drew ?_ | refine blk_alloc ?_ _)); exact BK229.out)) : gb236 ≠ gb229)); clear HO232; clear HO235; clear BK228; clear BK229; clear HB; have HO232 := n0_; have HO235 := n1_; have BK228 := n2_; have BK229 := n3_; have HB := n4_; have BK236 := n5_; have GW236 := n6_; have GE236 := n7_; have NB228_236 := n8_; have NB236_228 := n9_; have NB229_236 := n10_; have NB236_229 := n11_; clear n0_ n1_ n2_ n3_ n4_ n5_ n6_ n7_ n8_ n9_ n10_ n11_; clear hb hbox hg; obtain ⟨Ao10, co10, eo10⟩ := Kd.R_slice HO232.out; subst eo10; have hnb11 := NB236_228.out; have hnc11 := NB228_236.out; have hnb12 := NB236_229.out; have hnc12 := NB229_236.out; have hcz13_0 : w9.cell? ⟨gb236, 0, none⟩ = some (.slice none 0 0) := (blk_cell BK236.out 0).trans rfl; have hcz13_1 : w9.cell? ⟨gb236, 1, none⟩ = some (.slice none 0 0) := (blk_cell BK236.out 1).trans rfl; have hfz13_0 := blk_frozen BK236.out 0; have hfz13_1 := blk_frozen BK236.out 1; obtain ⟨Ao14, co14, eo14⟩ := Kd.S_slice HO235.out; subst eo14))
 go_loopg [1, 7] k (fun kq v1 v7 w' => ∃ (x1_1 : Int) (x7_1 : Int) (x237000_1 : List Int) (x237001_1 : List (List Int)) (u237000 : Value) (u237001 : Value), v1 = .int .i64 x1_1 ∧ v7 = .int .i64 x7_1 ∧ Aside0 (spec_l9Insert.l0 kq x1_1 x7_1 x237000_1 x237001_1 = some (r1, r2, r3)) ∧ Aside0 (kq ≤ k) ∧ Aside0 (Kd.R (Kd.int .i64) 3 w' w.heap.size (fun _ => True) u237000 x237000_1) ∧ Aside0 (Kd.S (Kd.slice 3 (Kd.int .i64)) 22 w' w.heap.size (fun k_ => some k_ ≠ (u237000 : Value).ownBlock) u237001 x237001_1) ∧ Aside0 (w'.heap[gb228]? = some (.cells #[(.slice A0_0 l0_0.length c0_0), (.slice A0_1 l0_1.length c0_1)] 28 (0, 0))) ∧ Aside0 (w'.heap[gb229]? = some (.cells #[(.slice none 0 0), (.slice none 0 0)] 28 (0, 0))) ∧ Aside0 (w'.heap[gb236]? = some (.cells #[u237000, u237001] 28 (0, 0))) ∧ Aside0 (Below w.heap.size w w'))
 case atStart => exact ⟨(a1), (0), (t230), (t233), (.slice Ao10 t230.length co10), (.slice Ao14 t233.length co14), (by first | rfl | (simp; done) | (simp [*]; done)), (by first | rfl | (simp; done) | (simp [*]; done)), H', ⟨Nat.le_refl _⟩, ⟨by (with_reducible repeat (first | apply Kd.R_alloc | apply Kd.R_drewN | apply Kd.R_drew)); exact Kd.R_mono (Kd.R_far (p := ⟨gb236, 1, none⟩) (Kd.R_far (p := ⟨gb236, 0, none⟩) (Kd.R_types HO232.out BK236.out (by decide)) (fun _ hk => hk.2) (.slice Ao10 t230.length co10)) (fun _ hk => hk.2) (.slice Ao14 t233.length co14)) (fun _ hk => trivial)⟩, ⟨by (with_reducible repeat (first | apply Kd.S_alloc | apply Kd.S_drewN | apply Kd.S_drew)); exact Kd.S_mono (Kd.S_far (p := ⟨gb236, 1, none⟩) (Kd.S_far (p := ⟨gb236, 0, none⟩) (Kd.S_types HO235.out BK236.out (by decide)) (fun _ hk => hk.2) (.slice Ao10 t230.length co10)) (fun _ hk => hk.2) (.slice Ao14 t233.length co14)) (fun _ hk => hk.1)⟩, ⟨by (with_reducible repeat (first | refine blk_drewN ?_ _ | refine blk_drew ?_ | refine blk_alloc ?_ _)); refine blk_far ?_ NB228_236.out _; (with_reducible repeat (first | refine blk_drewN ?_ _ | refine blk_drew ?_ | refine blk_alloc ?_ _)); refine blk_far ?_ NB228_236.out _; (with_reducible repeat (first | refine blk_drewN ?_ _ | refine blk_drew ?_ | refine blk_alloc ?_ _)); exact BK228.out⟩, ⟨by (with_reducible repeat (first | refine blk_drewN ?_ _ | refine blk_drew ?_ | refine blk_alloc ?_ _)); refine blk_far ?_ NB229_236.out _; (with_reducible repeat (first | refine blk_drewN ?_ _ | refine blk_drew ?_ | refine blk_alloc ?_ _)); refine blk_far ?_ NB229_236.out _; (with_reducible repeat (first | refine blk_drewN ?_ _ | refine blk_drew ?_ | refine blk_alloc ?_ _)); exact BK229.out⟩, ⟨by (with_reducible repeat (first | refine blk_drewN ?_ _ | refine blk_drew ?_ | refine blk_alloc ?_ _)); refine blk_put (cs := #[.slice Ao10 t230.length co10, .slice none 0 0]) ?_ 1 _ rfl; (with_reducible repeat (first | refine blk_drewN ?_ _ | refine blk_drew ?_ | refine blk_alloc ?_ _)); refine blk_put (cs := #[.slice none 0 0, .slice none 0 0]) ?_ 0 _ rfl; (with_reducible repeat (first | refine blk_drewN ?_ _ | refine blk_drew ?_ | refine blk_alloc ?_ _)); exact BK236.out⟩, ⟨by repeat (first | (with_reducible first | exact HB.out | apply below_alloc | apply pw_below_drewN | apply below_drew1 | refine below_set ?_ GE228.out | refine below_set ?_ GE229.out | refine below_set ?_ GE236.out) | exact HB.out)⟩⟩
 case round =>
  clear H'
  try clear c1
  try clear p2
  try clear c6
  try clear c8
  try clear c10
  try clear c11
  try clear c12
  try clear hcz13_0
  try clear hcz13_1
  try clear hcz7_0
  try clear hcz7_1
  try clear hfz13_0
  try clear hfz13_1
  try clear hfz7_0
  try clear hfz7_1
  obtain ⟨x1_1, x7_1, x237000_1, x237001_1, u237000, u237001, rfl, rfl, HA, HK1, HO_237000, HO_237001, BK228, BK229, BK236, HB⟩ := hrel
  cases gk with
  | zero => exact absurd HA.out (by simp [spec_l9Insert.l0])
  | succ k1 =>
   have H := HA.out
   clear HA
   simp only [spec_l9Insert.l0] at H
   by_cases c15 : x7_1 < (x237001_1.length : Int)
   ·rw [if_pos c15] at H
    have c15b0 : decide (x7_1 < (x237001_1.length : Int)) = true := decide_eq_true c15
    clear c15
    have H' := Aside0.mk H
    clear H
    have hnb16 := NB236_228.out
    have hnc16 := NB228_236.out
    have hnb17 := NB236_229.out
    have hnc17 := NB229_236.out
    have hcz18_0 : wr.cell? ⟨gb236, 0, none⟩ = some (u237000) := (blk_cell BK236.out 0).trans rfl
    have hcz18_1 : wr.cell? ⟨gb236, 1, none⟩ = some (u237001) := (blk_cell BK236.out 1).trans rfl
    have hfz18_0 := blk_frozen BK236.out 0
    have hfz18_1 := blk_frozen BK236.out 1
    obtain ⟨Ao19, co19, eo19⟩ := Kd.S_slice HO_237001.out
    subst eo19
    go_wp2
    go_loopg [8] k1 (fun kq v8 w' => ∃ (x8_2 : Int), v8 = .int .i64 x8_2 ∧ Aside0 (spec_l9Insert.l1 kq x1_1 x7_1 x8_2 x237000_1 x237001_1 = some (r1, r2, r3)) ∧ Aside0 (kq ≤ k1) ∧ Aside0 (Kd.R (Kd.int .i64) 3 w' w.heap.size (fun _ => True) u237000 x237000_1) ∧ Aside0 (Kd.S (Kd.slice 3 (Kd.int .i64)) 22 w' w.heap.size (fun k_ => some k_ ≠ (u237000 : Value).ownBlock) (.slice Ao19 x237001_1.length co19) x237001_1) ∧ Aside0 (w'.heap[gb228]? = some (.cells #[(.slice A0_0 l0_0.length c0_0), (.slice A0_1 l0_1.length c0_1)] 28 (0, 0))) ∧ Aside0 (w'.heap[gb229]? = some (.cells #[(.slice none 0 0), (.slice none 0 0)] 28 (0, 0))) ∧ Aside0 (w'.heap[gb236]? = some (.cells #[u237000, (.slice Ao19 x237001_1.length co19)] 28 (0, 0))) ∧ Aside0 (Below w.heap.size w w'))
    case atStart => exact ⟨(0), (by first | rfl | (simp; done) | (simp [*]; done)), H', ⟨Nat.le_refl _⟩, ⟨by (with_reducible repeat (first | apply Kd.R_alloc | apply Kd.R_drewN | apply Kd.R_drew)); exact HO_237000.out⟩, ⟨by (with_reducible repeat (first | apply Kd.S_alloc | apply Kd.S_drewN | apply Kd.S_drew)); exact HO_237001.out⟩, ⟨by (with_reducible repeat (first | refine blk_drewN ?_ _ | refine blk_drew ?_ | refine blk_alloc ?_ _)); exact BK228.out⟩, ⟨by (with_reducible repeat (first | refine blk_drewN ?_ _ | refine blk_drew ?_ | refine blk_alloc ?_ _)); exact BK229.out⟩, ⟨by (with_reducible repeat (first | refine blk_drewN ?_ _ | refine blk_drew ?_ | refine blk_alloc ?_ _)); exact BK236.out⟩, ⟨by repeat (first | (with_reducible first | exact HB.out | apply below_alloc | apply pw_below_drewN | apply below_drew1 | refine below_set ?_ GE228.out | refine below_set ?_ GE229.out | refine below_set ?_ GE236.out) | exact HB.out)⟩⟩
    case round =>
     clear H'
     try clear c1
     try clear p2
     try clear c6
     try clear c8
     try clear c10
     try clear c11
     try clear c12
     try clear c15
     try clear c15b0
     try clear c16
     try clear c17
     try clear hcz13_0
     try clear hcz13_1
     try clear hcz18_0
     try clear hcz18_1
     try clear hcz7_0
     try clear hcz7_1
     try clear hfz13_0
     try clear hfz13_1
     try clear hfz18_0
     try clear hfz18_1
     try clear hfz7_0
     try clear hfz7_1
     try clear p2
     obtain ⟨x8_2, rfl, HA, HK2, HO_237000, HO_237001, BK228, BK229, BK236, HB⟩ := hrel
     cases gk with
     | zero => exact absurd HA.out (by simp [spec_l9Insert.l1])
     | succ k2 =>
      have H := HA.out
      clear HA
      simp only [spec_l9Insert.l1] at H
      by_cases c20 : 0 ≤ x7_1
      ·rw [if_pos c20] at H
       have c20b0 : decide (0 ≤ x7_1) = true := decide_eq_true c20
       clear c20
       by_cases c21 : x7_1 < (x237001_1.length : Int)
       ·rw [if_pos c21] at H
        have c21b0 : decide (x7_1 < (x237001_1.length : Int)) = true := decide_eq_true c21
        clear c21
        by_cases c22 : x8_2 < ((rd_L1 x237001_1 x7_1).length : Int)
        ·rw [if_pos c22] at H
         have c22b0 : decide (x8_2 < ((rd_L1 x237001_1 x7_1).length : Int)) = true := decide_eq_true c22
         clear c22
         by_cases c23 : 0 ≤ x8_2
         ·rw [if_pos c23] at H
          have c23b0 : decide (0 ≤ x8_2) = true := decide_eq_true c23
          clear c23
          by_cases c24 : (rd (rd_L1 x237001_1 x7_1) x8_2) ≤ x1_1
          ·rw [if_pos c24] at H
           have c24b0 : decide ((rd (rd_L1 x237001_1 x7_1) x8_2) ≤ x1_1) = true := decide_eq_true c24
           clear c24
           have H' := Aside0.mk H
           clear H
           have hnb25 := NB236_228.out
           have hnc25 := NB228_236.out
           have hnb26 := NB236_229.out
           have hnc26 := NB229_236.out
           have hcz27_0 : wr.cell? ⟨gb236, 0, none⟩ = some (u237000) := (blk_cell BK236.out 0).trans rfl
           have hcz27_1 : wr.cell? ⟨gb236, 1, none⟩ = some (.slice Ao19 x237001_1.length co19) := (blk_cell BK236.out 1).trans rfl
           have hfz27_0 := blk_frozen BK236.out 0
           have hfz27_1 := blk_frozen BK236.out 1
           have p243 : 0 ≤ (x7_1 : Int) := of_decide_eq_true (by first | (with_reducible assumption) | assumption)
           have q243 : x7_1 < (x237001_1.length : Int) := of_decide_eq_true (by first | (with_reducible assumption) | assumption)
           obtain ⟨ad243, A243_0, c243_0, e243, hx243_0, hl243_0, hi243_0⟩ := at_L1 (Kd.S_reads' HO_237001.out).2.2 x7_1 p243 q243
           cases e243
           obtain ⟨ce243, hce243, hMe243, hcc243⟩ := Kd.S_get HO_237001.out [] x7_1 p243 (by first | exact q243 | exact of_decide_eq_true (by first | (with_reducible assumption) | assumption) | (have e_ := (Kd.S_reads' HO_237001.out).1; omega))
           obtain ⟨ve243_0, rfl, ge243_0⟩ := hMe243
           have hv243_0 := hcc243 0 _ rfl
           rw [Nat.add_zero, show ((Kd.slice 3 (Kd.int .i64))).sz = 1 from rfl, Nat.mul_one] at hv243_0
           replace hv243_0 := Option.some.inj (hv243_0.symm.trans hx243_0)
           rw [hv243_0] at ge243_0
           have HL243_0 := Aside0.mk (show Kd.R (Kd.int .i64) 3 _ _ _ _ (rd_L1 x237001_1 x7_1) from ge243_0)
           clear hv243_0 ge243_0
           have HX243_0 := Aside0.mk hx243_0
           clear hcc243 hce243
           have HR243_0 := Aside0.mk hi243_0
           have HC243_0 := Aside0.mk hl243_0
           clear hi243_0 hl243_0
           replace p243 := eq_true p243
           replace q243 := eq_true q243
           have p244 : 0 ≤ (x7_1 : Int) := of_decide_eq_true (by first | (with_reducible assumption) | assumption)
           have q244 : x7_1 < (x237001_1.length : Int) := of_decide_eq_true (by first | (with_reducible assumption) | assumption)
           obtain ⟨ad244, A244_0, c244_0, e244, hx244_0, hl244_0, hi244_0⟩ := at_L1 (Kd.S_reads' HO_237001.out).2.2 x7_1 p244 q244
           obtain rfl : ad243 = ad244 := (by injection e244)
           obtain ⟨ce244, hce244, hMe244, hcc244⟩ := Kd.S_get HO_237001.out [] x7_1 p244 (by first | exact q244 | exact of_decide_eq_true (by first | (with_reducible assumption) | assumption) | (have e_ := (Kd.S_reads' HO_237001.out).1; omega))
           obtain ⟨ve244_0, rfl, ge244_0⟩ := hMe244
           have hv244_0 := hcc244 0 _ rfl
           rw [Nat.add_zero, show ((Kd.slice 3 (Kd.int .i64))).sz = 1 from rfl, Nat.mul_one] at hv244_0
           replace hv244_0 := Option.some.inj (hv244_0.symm.trans hx244_0)
           rw [hv244_0] at ge244_0
           have HL244_0 := Aside0.mk (show Kd.R (Kd.int .i64) 3 _ _ _ _ (rd_L1 x237001_1 x7_1) from ge244_0)
           clear hv244_0 ge244_0
           have HX244_0 := Aside0.mk hx244_0
           clear hcc244 hce244
           have HR244_0 := Aside0.mk hi244_0
           have HC244_0 := Aside0.mk hl244_0
           clear hi244_0 hl244_0
           replace p244 := eq_true p244
           replace q244 := eq_true q244
           have ea_ := Option.some.inj (hx243_0.symm.trans hx244_0)
           injection ea_ with ea_ en_ ec_
           subst ea_
           subst ec_
           clear en_
           have p245 : 0 ≤ (x8_2 : Int) := of_decide_eq_true (by first | (with_reducible assumption) | assumption)
           have q245 : x8_2 < ((rd_L1 x237001_1 x7_1).length : Int) := of_decide_eq_true (by first | (with_reducible assumption) | assumption)
           obtain ⟨ad245, e245, hx245_0⟩ := Kd.at_int (by repeat (first | (with_reducible exact HR244_0.out) | (with_reducible refine Kd.C_alloc ?_ _) | (with_reducible refine Kd.C_drewN ?_ _) | (with_reducible refine Kd.C_drew ?_) | exact HR244_0.out)) x8_2 p245 q245
           cases e245
           replace p245 := eq_true p245
           replace q245 := eq_true q245
           go_wp2
           go_roundg k2
           case measure => have := HK1.out; have := HK2.out; omega
           case rel => exact ⟨(wrap64 (x8_2 + 1)), (by first | rfl | (simp; done) | (simp [*]; done)), H', ⟨by have := HK1.out; have := HK2.out; omega⟩, ⟨by (with_reducible repeat (first | apply Kd.R_alloc | apply Kd.R_drewN | apply Kd.R_drew)); exact HO_237000.out⟩, ⟨by (with_reducible repeat (first | apply Kd.S_alloc | apply Kd.S_drewN | apply Kd.S_drew)); exact HO_237001.out⟩, ⟨by (with_reducible repeat (first | refine blk_drewN ?_ _ | refine blk_drew ?_ | refine blk_alloc ?_ _)); exact BK228.out⟩, ⟨by (with_reducible repeat (first | refine blk_drewN ?_ _ | refine blk_drew ?_ | refine blk_alloc ?_ _)); exact BK229.out⟩, ⟨by (with_reducible repeat (first | refine blk_drewN ?_ _ | refine blk_drew ?_ | refine blk_alloc ?_ _)); exact BK236.out⟩, ⟨by repeat (first | (with_reducible first | exact HB.out | apply below_alloc | apply pw_below_drewN | apply below_drew1 | refine below_set ?_ GE228.out | refine below_set ?_ GE229.out | refine below_set ?_ GE236.out) | exact HB.out)⟩⟩
          ·rw [if_neg c24] at H
           have c24b0 : decide ((rd (rd_L1 x237001_1 x7_1) x8_2) ≤ x1_1) = false := decide_eq_false c24
           clear c24
           by_cases c28 : x8_2 = ((rd_L1 x237001_1 x7_1).length : Int)
           ·rw [if_pos c28] at H
            have c28b0 : (x8_2 == ((rd_L1 x237001_1 x7_1).length : Int)) = true := beq_iff_eq.mpr c28
            have c28b1 : (x8_2 != ((rd_L1 x237001_1 x7_1).length : Int)) = false := bne_eq_false_iff_eq.mpr c28
            clear c28
            by_cases c29 : (rd_L1 x237001_1 x7_1).length < 17592186044416
            ·rw [if_pos c29] at H
             have LMc29 := Aside0.mk c29
             clear c29
             obtain ⟨y248, hy248⟩ : ∃ y_ : List Int, y_ = ((rd_L1 x237001_1 x7_1) ++ [x1_1]) := ⟨_, rfl⟩
             replace H : (some (x237000_1, (x237001_1.set (x7_1 : Int).toNat y248), x7_1)) = some (r1, r2, r3) := by first | (rw [hy248]; with_reducible exact H) | (have H2_ := (Option.bind_some _ _).symm.trans H; rw [hy248]; with_reducible exact H2_) | (have H2_ := (Option.bind_some _ _).symm.trans H; with_reducible exact H2_) | with_reducible exact H | (rw [hy248]; exact H) | exact H
             have Ny248 := Aside0.mk hy248
             clear hy248
             obtain ⟨y251, hy251⟩ : ∃ y_ : List (List Int), y_ = (x237001_1.set (x7_1 : Int).toNat y248) := ⟨_, rfl⟩
             replace H : (some (x237000_1, y251, x7_1)) = some (r1, r2, r3) := by first | (rw [hy251]; with_reducible exact H) | (have H2_ := (Option.bind_some _ _).symm.trans H; rw [hy251]; with_reducible exact H2_) | (have H2_ := (Option.bind_some _ _).symm.trans H; with_reducible exact H2_) | with_reducible exact H | (rw [hy251]; exact H) | exact H
             have Ny251 := Aside0.mk hy251
             clear hy251
             simp only [Option.some.injEq, Prod.mk.injEq] at H
             obtain ⟨rfl, rfl, rfl⟩ := H
             have hnb31 := NB236_228.out
             have hnc31 := NB228_236.out
             have hnb32 := NB236_229.out
             have hnc32 := NB229_236.out
             have hcz33_0 : wr.cell? ⟨gb236, 0, none⟩ = some (u237000) := (blk_cell BK236.out 0).trans rfl
             have hcz33_1 : wr.cell? ⟨gb236, 1, none⟩ = some (.slice Ao19 x237001_1.length co19) := (blk_cell BK236.out 1).trans rfl
             have hfz33_0 := blk_frozen BK236.out 0
             have hfz33_1 := blk_frozen BK236.out 1
             have p243 : 0 ≤ (x7_1 : Int) := of_decide_eq_true (by first | (with_reducible assumption) | assumption)
             have q243 : x7_1 < (x237001_1.length : Int) := of_decide_eq_true (by first | (with_reducible assumption) | assumption)
             obtain ⟨ad243, A243_0, c243_0, e243, hx243_0, hl243_0, hi243_0⟩ := at_L1 (Kd.S_reads' HO_237001.out).2.2 x7_1 p243 q243
             cases e243
             obtain ⟨ce243, hce243, hMe243, hcc243⟩ := Kd.S_get HO_237001.out [] x7_1 p243 (by first | exact q243 | exact of_decide_eq_true (by first | (with_reducible assumption) | assumption) | (have e_ := (Kd.S_reads' HO_237001.out).1; omega))
             obtain ⟨ve243_0, rfl, ge243_0⟩ := hMe243
             have hv243_0 := hcc243 0 _ rfl
             rw [Nat.add_zero, show ((Kd.slice 3 (Kd.int .i64))).sz = 1 from rfl, Nat.mul_one] at hv243_0
             replace hv243_0 := Option.some.inj (hv243_0.symm.trans hx243_0)
             rw [hv243_0] at ge243_0
             have HL243_0 := Aside0.mk (show Kd.R (Kd.int .i64) 3 _ _ _ _ (rd_L1 x237001_1 x7_1) from ge243_0)
             clear hv243_0 ge243_0
             have HX243_0 := Aside0.mk hx243_0
             clear hcc243 hce243
             have HR243_0 := Aside0.mk hi243_0
             have HC243_0 := Aside0.mk hl243_0
             clear hi243_0 hl243_0
             replace p243 := eq_true p243
             replace q243 := eq_true q243
             have p244 : 0 ≤ (x7_1 : Int) := of_decide_eq_true (by first | (with_reducible assumption) | assumption)
             have q244 : x7_1 < (x237001_1.length : Int) := of_decide_eq_true (by first | (with_reducible assumption) | assumption)
             obtain ⟨ad244, A244_0, c244_0, e244, hx244_0, hl244_0, hi244_0⟩ := at_L1 (Kd.S_reads' HO_237001.out).2.2 x7_1 p244 q244
             obtain rfl : ad243 = ad244 := (by injection e244)
             obtain ⟨ce244, hce244, hMe244, hcc244⟩ := Kd.S_get HO_237001.out [] x7_1 p244 (by first | exact q244 | exact of_decide_eq_true (by first | (with_reducible assumption) | assumption) | (have e_ := (Kd.S_reads' HO_237001.out).1; omega))
             obtain ⟨ve244_0, rfl, ge244_0⟩ := hMe244
             have hv244_0 := hcc244 0 _ rfl
             rw [Nat.add_zero, show ((Kd.slice 3 (Kd.int .i64))).sz = 1 from rfl, Nat.mul_one] at hv244_0
             replace hv244_0 := Option.some.inj (hv244_0.symm.trans hx244_0)
             rw [hv244_0] at ge244_0
             have HL244_0 := Aside0.mk (show Kd.R (Kd.int .i64) 3 _ _ _ _ (rd_L1 x237001_1 x7_1) from ge244_0)
             clear hv244_0 ge244_0
             have HX244_0 := Aside0.mk hx244_0
             clear hcc244 hce244
             have HR244_0 := Aside0.mk hi244_0
             have HC244_0 := Aside0.mk hl244_0
             clear hi244_0 hl244_0
             replace p244 := eq_true p244
             replace q244 := eq_true q244
             have ea_ := Option.some.inj (hx243_0.symm.trans hx244_0)
             injection ea_ with ea_ en_ ec_
             subst ea_
             subst ec_
             clear en_
             have p245 : 0 ≤ (x8_2 : Int) := of_decide_eq_true (by first | (with_reducible assumption) | assumption)
             have q245 : x8_2 < ((rd_L1 x237001_1 x7_1).length : Int) := of_decide_eq_true (by first | (with_reducible assumption) | assumption)
             obtain ⟨ad245, e245, hx245_0⟩ := Kd.at_int (by repeat (first | (with_reducible exact HR244_0.out) | (with_reducible refine Kd.C_alloc ?_ _) | (with_reducible refine Kd.C_drewN ?_ _) | (with_reducible refine Kd.C_drew ?_) | exact HR244_0.out)) x8_2 p245 q245
             cases e245
             replace p245 := eq_true p245
             replace q245 := eq_true q245
             have p246 : 0 ≤ (x7_1 : Int) := of_decide_eq_true (by first | (with_reducible assumption) | assumption)
             have q246 : x7_1 < (x237001_1.length : Int) := of_decide_eq_true (by first | (with_reducible assumption) | assumption)
             obtain ⟨ad246, A246_0, c246_0, e246, hx246_0, hl246_0, hi246_0⟩ := at_L1 (Kd.S_reads' HO_237001.out).2.2 x7_1 p246 q246
             obtain rfl : ad243 = ad246 := (by injection e246)
             obtain ⟨ce246, hce246, hMe246, hcc246⟩ := Kd.S_get HO_237001.out [] x7_1 p246 (by first | exact q246 | exact of_decide_eq_true (by first | (with_reducible assumption) | assumption) | (have e_ := (Kd.S_reads' HO_237001.out).1; omega))
             obtain ⟨ve246_0, rfl, ge246_0⟩ := hMe246
             have hv246_0 := hcc246 0 _ rfl
             rw [Nat.add_zero, show ((Kd.slice 3 (Kd.int .i64))).sz = 1 from rfl, Nat.mul_one] at hv246_0
             replace hv246_0 := Option.some.inj (hv246_0.symm.trans hx246_0)
             rw [hv246_0] at ge246_0
             have HL246_0 := Aside0.mk (show Kd.R (Kd.int .i64) 3 _ _ _ _ (rd_L1 x237001_1 x7_1) from ge246_0)
             clear hv246_0 ge246_0
             have HX246_0 := Aside0.mk hx246_0
             clear hcc246 hce246
             have HR246_0 := Aside0.mk hi246_0
             have HC246_0 := Aside0.mk hl246_0
             clear hi246_0 hl246_0
             replace p246 := eq_true p246
             replace q246 := eq_true q246
             have ea_ := Option.some.inj (hx243_0.symm.trans hx246_0)
             injection ea_ with ea_ en_ ec_
             subst ea_
             subst ec_
             clear en_
             try go_wp2
             have n0_ := Aside0.mk (Kd.R_drew HO_237000.out)
             have n1_ := Aside0.mk (Kd.S_drew HO_237001.out)
             have n2_ := Aside0.mk (Kd.R_drew HL243_0.out)
             have n3_ := Aside0.mk (Kd.R_drew HL244_0.out)
             have n4_ := Aside0.mk (Kd.R_drew HL246_0.out)
             have n5_ := Aside0.mk (blk_drew BK228.out)
             have n6_ := Aside0.mk (blk_drew BK229.out)
             have n7_ := Aside0.mk (blk_drew BK236.out)
             have n8_ := Aside0.mk (Kd.C_drew HR243_0.out)
             have n9_ := Aside0.mk (Kd.C_drew HR244_0.out)
             have n10_ := Aside0.mk (Kd.C_drew HR246_0.out)
             have n11_ := Aside0.mk (below_drew1 HB.out)
             clear HO_237000
             clear HO_237001
             clear HL243_0
             clear HL244_0
             clear HL246_0
             clear BK228
             clear BK229
             clear BK236
             clear HR243_0
             clear HR244_0
             clear HR246_0
             clear HB
             have HO_237000 := n0_
             have HO_237001 := n1_
             have HL243_0 := n2_
             have HL244_0 := n3_
             have HL246_0 := n4_
             have BK228 := n5_
             have BK229 := n6_
             have BK236 := n7_
             have HR243_0 := n8_
             have HR244_0 := n9_
             have HR246_0 := n10_
             have HB := n11_
             clear n0_ n1_ n2_ n3_ n4_ n5_ n6_ n7_ n8_ n9_ n10_ n11_
             have p247 : 0 ≤ (x7_1 : Int) := of_decide_eq_true (by first | (with_reducible assumption) | assumption)
             have q247 : x7_1 < (x237001_1.length : Int) := of_decide_eq_true (by first | (with_reducible assumption) | assumption)
             obtain ⟨ad247, A247_0, c247_0, e247, hx247_0, hl247_0, hi247_0⟩ := at_L1 (Kd.S_reads' HO_237001.out).2.2 x7_1 p247 q247
             obtain rfl : ad243 = ad247 := (by injection e247)
             obtain ⟨ce247, hce247, hMe247, hcc247⟩ := Kd.S_get HO_237001.out [] x7_1 p247 (by first | exact q247 | exact of_decide_eq_true (by first | (with_reducible assumption) | assumption) | (have e_ := (Kd.S_reads' HO_237001.out).1; omega))
             obtain ⟨ve247_0, rfl, ge247_0⟩ := hMe247
             have hv247_0 := hcc247 0 _ rfl
             rw [Nat.add_zero, show ((Kd.slice 3 (Kd.int .i64))).sz = 1 from rfl, Nat.mul_one] at hv247_0
             replace hv247_0 := Option.some.inj (hv247_0.symm.trans hx247_0)
             rw [hv247_0] at ge247_0
             have HL247_0 := Aside0.mk (show Kd.R (Kd.int .i64) 3 _ _ _ _ (rd_L1 x237001_1 x7_1) from ge247_0)
             clear hv247_0 ge247_0
             have HX247_0 := Aside0.mk hx247_0
             clear hcc247 hce247
             have HR247_0 := Aside0.mk hi247_0
             have HC247_0 := Aside0.mk hl247_0
             clear hi247_0 hl247_0
             replace p247 := eq_true p247
             replace q247 := eq_true q247
             obtain ⟨go35, co35, eo35, gb35, gl35, cl35, HG35⟩ := Kd.S_form HO_237001.out (by have h_ : (x7_1 : Int) < ((x237001_1.length : Int) : Int) := of_decide_eq_true (by first | (with_reducible assumption) | assumption); have h2_ : 0 ≤ (x7_1 : Int) := (of_decide_eq_true (by first | (with_reducible assumption) | assumption)); omega)
             (first | cases eo35 | (injection eo35 with ea_ en_ ec_; (first | subst ea_ | (injection ea_ with ea_; subst ea_)); subst ec_; clear en_))
             have GB35 := Aside0.mk gb35
             have GG35 := Aside0.mk HG35
             clear gb35 gl35 HG35
             (first | simp only [add_plain] at hx243_0 | skip)
             (first | simp only [add_plain] at hx244_0 | skip)
             (first | simp only [add_plain] at hx246_0 | skip)
             (first | simp only [add_plain] at hx247_0 | skip)
             obtain ⟨oki35, ce35, hcl35, hM35, hcc35, _, _, hH35⟩ := Kd.S_elem HO_237001.out [] (x7_1 : Int) (of_decide_eq_true (by first | (with_reducible assumption) | assumption)) (by have h_ : (x7_1 : Int) < ((x237001_1.length : Int) : Int) := of_decide_eq_true (by first | (with_reducible assumption) | assumption); first | exact h_ | (have e_ := (Kd.S_reads' HO_237001.out).1; omega) | simpa using h_)
             obtain ⟨ve35_0, rfl, ge35_0⟩ := hM35
             have hv35 := hcc35 0 _ rfl
             have hX35 := HX247_0.out
             (try simp only [add_plain] at hX35)
             (try simp only [Nat.add_zero] at hv35)
             (try rw [show ((Kd.slice 3 (Kd.int .i64))).sz = 1 from rfl, Nat.mul_one] at hv35)
             replace hv35 := Option.some.inj (hv35.symm.trans hX35)
             subst hv35
             clear hX35 hcc35 hcl35
             have UU35 := Aside0.mk (show Kd.R (Kd.int .i64) 3 _ w.heap.size oki35 (.slice A247_0 (rd_L1 x237001_1 x7_1).length c247_0) (rd_L1 x237001_1 x7_1) from ge35_0)
             have HH35 := Aside0.mk hH35
             have HN35 := Aside0.mk (Kd.S_reads' HO_237001.out).1
             clear hH35 ge35_0
             refine start_ (n := 13) (S := fun w' => w'.cell? ⟨gb236, 0, none⟩ = some (u237000) ∧ w'.cell? ⟨gb236, 1, none⟩ = some (.slice (some ⟨go35, 0, none⟩) x237001_1.length co19) ∧ w'.cell? ⟨go35, (x7_1).toNat, none⟩ = some (.slice A247_0 (rd_L1 x237001_1 x7_1).length c247_0)) (ds := [12]) zB7_0 (by kernel_rfl) rfl rfl ⟨(blk_cell BK236.out 0).trans rfl, (blk_cell BK236.out 1).trans rfl, hx247_0⟩ (fun hHeld => ?_); refine with_tabW spec_l9Insert.tab9 spec_l9Insert.bits9 (fun HT_ HW_ => ?_)
             generalize wr.drew = w34 at HO_237000 HO_237001 HL243_0 HL244_0 HL246_0 BK228 BK229 BK236 HR243_0 HR244_0 HR246_0 HB GG35 HH35 HL247_0 HR247_0 HX247_0 UU35 hx243_0 hx244_0 hx246_0 hx247_0 hHeld ⊢
             refine zP (i := 0) (N := some 49) zB7_1 (any_of HT_.out (by kernel_rfl)) ?_
             refine zP (i := 2) (N := some 51) zB7_2 (any_of HT_.out (by kernel_rfl)) ?_
             refine zP (i := 3) (N := some 52) zB7_3 (any_of HT_.out (by kernel_rfl)) ?_
             refine zP (i := 5) (N := some 54) zB7_4 (any_of HT_.out (by kernel_rfl)) ?_
             refine zP (i := 8) (N := some 57) zB7_5 (any_of HT_.out (by kernel_rfl)) ?_
             refine zT3 (i := 1) (N := some 50) zB7_6 (take_ofW HT_.out HW_.out (by kernel_rfl)) hHeld ?_
             refine zT3 (i := 4) (N := some 53) zB7_7 (take_ofW HT_.out HW_.out (by kernel_rfl)) hHeld ?_
             refine zP (i := 6) (N := some 55) zB7_8 (any_of HT_.out (by kernel_rfl)) ?_
             refine zT3 (i := 7) (N := some 56) zB7_9 (take_ofW HT_.out HW_.out (by kernel_rfl)) hHeld ?_
             refine one_ (i := 9) (N := some 58) zB7_10 rfl rfl (one_of HT_.out (by kernel_rfl)) (by decide) (fun K hK => ?_)
             refine value_ (w1 := ?_) (v := ?_) (by rfl) rfl ?_ ?_
             rotate_left 2
             ·go_simp
              constructor
              ·rfl
              ·rfl
             refine hK.out _ _ ⟨(blk_cell (blk_alloc BK236.out _) 0).trans rfl, (blk_cell (blk_alloc BK236.out _) 1).trans rfl, (World.cell?_alloc_lt _ _ _ (World.block_lt_of_cell? _ _ (hHeld.2.2))).trans (hHeld.2.2)⟩ (fun hHeld => ?_)
             clear hK K
             refine norm_ (a' := ?_) ?_ ?_
             rotate_left
             ·show Act.put _ (some 58) _ = _
              simp only [Act.put, List.setIfInBounds_toArray, List.set_cons_zero, List.set_cons_succ, i64_w, i32_w]
              rfl
             refine one_ (i := 10) (N := some 59) zB7_11 rfl rfl (one_of HT_.out (by kernel_rfl)) (by decide) (fun K hK => ?_)
             refine Kd.R_append_step (Kd.int .i64) (w0 := w) w.heap.size (by rfl) (.tmp 56) (.tmp 58) 22 3 (.int .i64 0) 8 rfl Try.underlying22 info3 rfl (by decide) (by omega) (.slice A247_0 (rd_L1 x237001_1 x7_1).length c247_0) (rd_L1 x237001_1 x7_1) x1_1 [.int .i64 x1_1] (fun k_ => oki35 k_ ∨ ((fun k_ => some k_ ≠ (u237000 : Value).ownBlock)) k_ ∧ w34.heap.size ≤ k_) (fun _ => False) rfl rfl ?aP (fun _ hk => hk.elim) ?aF ?aO ?aB ?aS ?aL ?_
             (case aP => exact rfl)
             (case aB => exact (by repeat (first | (with_reducible first | exact HB.out | apply below_alloc | apply pw_below_drewN | apply below_drew1 | refine below_set ?_ GE228.out | refine below_set ?_ GE229.out | refine below_set ?_ GE236.out) | exact HB.out)))
             (case aF => exact (fun k_ hk => .inr ⟨Kd.fresh' (Kd.R_lt (by (with_reducible repeat (first | apply Kd.R_alloc | apply Kd.R_drewN | apply Kd.R_drew)); exact HO_237000.out)) k_ hk, hk⟩))
             (case aO => exact (by (with_reducible repeat (first | apply Kd.R_alloc | apply Kd.R_drewN | apply Kd.R_drew)); exact Kd.R_mono UU35.out (fun _ hk => .inl hk)))
             (case aS => exact (below_size (by repeat (first | (with_reducible first | exact HB.out | apply below_alloc | apply pw_below_drewN | apply below_drew1 | refine below_set ?_ GE228.out | refine below_set ?_ GE229.out | refine below_set ?_ GE236.out) | exact HB.out))))
             (case aL => have := LMc29.out; omega)
             intro v249 w36 ho hb hg hat
             (first | have HS2_ := cell_grown hg (hHeld.2.2) (by first | (rw [add_block]; exact (fun e_ => ((HL247_0.out.1 _ e_.symm).2) rfl)) | (show some (Addr.add _ _).block ≠ _; rw [add_block]; exact (fun e_ => ((HL247_0.out.1 _ e_.symm).2) rfl)) | exact (fun e_ => ((HL247_0.out.1 _ e_.symm).2) rfl)) | have HS2_ := cell_grown hg (cell_unalloc (hHeld.2.2) (by first | (rw [add_block]; exact Kd.S_lt HO_237001.out _ rfl) | (show (Addr.add _ _).block < _; rw [add_block]; exact Kd.S_lt HO_237001.out _ rfl) | exact Kd.S_lt HO_237001.out _ rfl)) (by first | (rw [add_block]; exact (fun e_ => ((HL247_0.out.1 _ e_.symm).2) rfl)) | (show some (Addr.add _ _).block ≠ _; rw [add_block]; exact (fun e_ => ((HL247_0.out.1 _ e_.symm).2) rfl)) | exact (fun e_ => ((HL247_0.out.1 _ e_.symm).2) rfl)))
             rw [← Ny248.out] at ho
             have n0_ := Aside0.mk (Kd.R_grown2 (by (with_reducible repeat (first | apply Kd.R_alloc | apply Kd.R_drewN | apply Kd.R_drew)); exact HO_237000.out) rfl hg (fun k_ e_ => (HL247_0.out.1 k_ e_).1))
             have n1_ := Aside0.mk (blk_grown (g := gb228) (o := .cells #[.slice A0_0 l0_0.length c0_0, .slice A0_1 l0_1.length c0_1] 28 (0, 0)) (by (with_reducible repeat (first | refine blk_drewN ?_ _ | refine blk_drew ?_ | refine blk_alloc ?_ _)); exact BK228.out) hg (Kd.R_ne HL247_0.out BK228.out (by decide)))
             have n2_ := Aside0.mk (blk_grown (g := gb229) (o := .cells #[.slice none 0 0, .slice none 0 0] 28 (0, 0)) (by (with_reducible repeat (first | refine blk_drewN ?_ _ | refine blk_drew ?_ | refine blk_alloc ?_ _)); exact BK229.out) hg (Kd.R_ne HL247_0.out BK229.out (by decide)))
             have n3_ := Aside0.mk (blk_grown (g := gb236) (o := .cells #[u237000, .slice (some ⟨go35, 0, none⟩) x237001_1.length co19] 28 (0, 0)) (by (with_reducible repeat (first | refine blk_drewN ?_ _ | refine blk_drew ?_ | refine blk_alloc ?_ _)); exact BK236.out) hg (Kd.R_ne HL247_0.out BK236.out (by decide)))
             have n4_ := Aside0.mk (hb)
             have n5_ := Aside0.mk (Kd.H_grown (Kd.H_widen (by repeat (first | exact HH35.out | refine Kd.H_alloc ?_ _ | refine Kd.H_drewN ?_ _ | refine Kd.H_drew ?_))) hg (fun k_ e_ => .inl (UU35.out.1 k_ e_)))
             have n6_ := Aside0.mk (ho)
             clear HO_237000
             clear BK228
             clear BK229
             clear BK236
             clear HB
             clear HH35
             clear HO_237001
             clear UU35
             clear HL243_0
             clear HL244_0
             clear HL246_0
             clear HL247_0
             have HO_237000 := n0_
             have BK228 := n1_
             have BK229 := n2_
             have BK236 := n3_
             have HB := n4_
             have HH35 := n5_
             have HO250 := n6_
             clear n0_ n1_ n2_ n3_ n4_ n5_ n6_
             clear ho hb hg hat
             have p30 : 0 ≤ (x7_1 : Int) := of_decide_eq_true (by first | (with_reducible assumption) | assumption)
             have q30 : (x7_1 : Int) < ((x237001_1.length : Int) : Int) := of_decide_eq_true (by first | (with_reducible assumption) | assumption)
             replace p30 := eq_true p30
             replace q30 := eq_true q30
             obtain ⟨Ao39, co39, eo39⟩ := Kd.R_slice HO250.out
             (first | subst eo39 | (injection eo39 with f1_ f2_ f3_; have f4_ := f1_.symm; have f5_ := f3_.symm; clear f1_ f2_ f3_; subst f4_; subst f5_))
             obtain ⟨_, _, hraw37, _, _, hcc37, _⟩ := Kd.H_raw HH35.out (of_decide_eq_true (by first | (with_reducible assumption) | assumption)) (by have h_ : (x7_1 : Int) < ((x237001_1.length : Int) : Int) := of_decide_eq_true (by first | (with_reducible assumption) | assumption); first | exact h_ | (have e_ := (HN35.out); omega) | simpa using h_)
             obtain ⟨_, hfr37⟩ := Kd.H_at HH35.out (of_decide_eq_true (by first | (with_reducible assumption) | assumption)) (by have h_ : (x7_1 : Int) < ((x237001_1.length : Int) : Int) := of_decide_eq_true (by first | (with_reducible assumption) | assumption); first | exact h_ | (have e_ := (HN35.out); omega) | simpa using h_)
             have hx37_0 := hcc37 0 _ rfl
             have hf37_0 := hfr37 0
             (try simp only [Nat.add_zero] at hx37_0 hf37_0)
             (try rw [show ((Kd.slice 3 (Kd.int .i64))).sz = 1 from rfl, Nat.mul_one] at hx37_0)
             (try rw [show ((Kd.slice 3 (Kd.int .i64))).sz = 1 from rfl, Nat.mul_one] at hf37_0)
             have HP37 := Kd.S_seg0 HH35.out (of_decide_eq_true (by first | (with_reducible assumption) | assumption)) (by have h_ : (x7_1 : Int) < ((x237001_1.length : Int) : Int) := of_decide_eq_true (by first | (with_reducible assumption) | assumption); first | exact h_ | (have e_ := (HN35.out); omega) | simpa using h_) (seg := [.slice Ao39 y248.length co39]) (j := 0) (show 1 ≤ 1 from by decide) (x' := y248) (Kd.M_row HO250.out) (fun _ hk => hk)
             (try simp only [show ((Kd.slice 3 (Kd.int .i64))).sz = 1 from rfl, Nat.mul_one, Nat.add_zero] at HP37)
             clear hcc37 hfr37
             have HNB228_go35 := Aside0.mk (show gb228 ≠ go35 from by have h_ := Kd.R_ne hraw37 BK228.out (by decide); intro e_; exact h_ (by rw [e_]; rfl))
             have HNB229_go35 := Aside0.mk (show gb229 ≠ go35 from by have h_ := Kd.R_ne hraw37 BK229.out (by decide); intro e_; exact h_ (by rw [e_]; rfl))
             have HNB236_go35 := Aside0.mk (show gb236 ≠ go35 from by have h_ := Kd.R_ne hraw37 BK236.out (by decide); intro e_; exact h_ (by rw [e_]; rfl))
             have HS37 := HP37.1
             rw [← Ny251.out] at HS37
             have HQ37 := Aside0.mk HS37
             obtain ⟨_, hgg37⟩ := Kd.R_typed hraw37 go35 rfl
             have GG37_ := Aside0.mk hgg37
             clear HP37 HS37 hgg37
             refine hK.out _ _ ⟨(blk_cell BK236.out 0).trans rfl, (blk_cell BK236.out 1).trans rfl, HS2_⟩ (fun hHeld => ?_)
             clear hK K
             refine norm_ (a' := ?_) ?_ ?_
             rotate_left
             ·show Act.put _ (some 59) _ = _
              simp only [Act.put, List.setIfInBounds_toArray, List.set_cons_zero, List.set_cons_succ, i64_w, i32_w]
              rfl
             refine zP (i := 11) (N := some 60) zB7_12 (any_of HT_.out (by kernel_rfl)) ?_
             refine last_ (i := 12) (N := none) zB7_13 rfl rfl (one_of HT_.out (by kernel_rfl)) (by decide) (fun K hK => ?_)
             refine skip_ (w1 := ?_) (by rfl) rfl ?_ ?_
             rotate_left
             ·go_simp
              rfl
             refine hK.out _ _ ?_
             clear hK K
             refine done_ (done_of HT_.out (by kernel_rfl)) ?_
             have n0_ : Aside0 (Kd.R (Kd.int .i64) 3 (w36.setCell ⟨go35, (x7_1 : Int).toNat, none⟩ (.slice Ao39 y248.length co39)) w.heap.size (fun _ => True) u237000 x237000_1) := ⟨by (with_reducible repeat (first | apply Kd.R_alloc | apply Kd.R_drewN | apply Kd.R_drew)); exact Kd.R_mono (Kd.R_far (p := ⟨go35, (x7_1 : Int).toNat, none⟩) (Kd.R_types HO_237000.out GG37_.out (by decide)) (fun _ hk => hk.2) (.slice Ao39 y248.length co39)) (fun _ hk => trivial)⟩
             have n1_ : Aside0 (Kd.S (Kd.slice 3 (Kd.int .i64)) 22 (w36.setCell ⟨go35, (x7_1 : Int).toNat, none⟩ (.slice Ao39 y248.length co39)) w.heap.size (fun k_ => some k_ ≠ (u237000 : Value).ownBlock) (.slice (some ⟨go35, 0, none⟩) x237001_1.length co19) y251) := ⟨by (with_reducible repeat (first | apply Kd.S_alloc | apply Kd.S_drewN | apply Kd.S_drew)); exact HQ37.out⟩
             have n2_ : Aside0 ((w36.setCell ⟨go35, (x7_1 : Int).toNat, none⟩ (.slice Ao39 y248.length co39)).heap[gb228]? = some (.cells #[.slice A0_0 l0_0.length c0_0, .slice A0_1 l0_1.length c0_1] 28 (0, 0))) := ⟨by (with_reducible repeat (first | refine blk_drewN ?_ _ | refine blk_drew ?_ | refine blk_alloc ?_ _)); refine blk_far ?_ HNB228_go35.out _; (with_reducible repeat (first | refine blk_drewN ?_ _ | refine blk_drew ?_ | refine blk_alloc ?_ _)); exact BK228.out⟩
             have n3_ : Aside0 ((w36.setCell ⟨go35, (x7_1 : Int).toNat, none⟩ (.slice Ao39 y248.length co39)).heap[gb229]? = some (.cells #[.slice none 0 0, .slice none 0 0] 28 (0, 0))) := ⟨by (with_reducible repeat (first | refine blk_drewN ?_ _ | refine blk_drew ?_ | refine blk_alloc ?_ _)); refine blk_far ?_ HNB229_go35.out _; (with_reducible repeat (first | refine blk_drewN ?_ _ | refine blk_drew ?_ | refine blk_alloc ?_ _)); exact BK229.out⟩
             have n4_ : Aside0 ((w36.setCell ⟨go35, (x7_1 : Int).toNat, none⟩ (.slice Ao39 y248.length co39)).heap[gb236]? = some (.cells #[u237000, .slice (some ⟨go35, 0, none⟩) x237001_1.length co19] 28 (0, 0))) := ⟨by (with_reducible repeat (first | refine blk_drewN ?_ _ | refine blk_drew ?_ | refine blk_alloc ?_ _)); refine blk_far ?_ HNB236_go35.out _; (with_reducible repeat (first | refine blk_drewN ?_ _ | refine blk_drew ?_ | refine blk_alloc ?_ _)); exact BK236.out⟩
             have n5_ : Aside0 (Below w.heap.size w (w36.setCell ⟨go35, (x7_1 : Int).toNat, none⟩ (.slice Ao39 y248.length co39))) := ⟨by repeat (first | (with_reducible first | exact HB.out | apply below_alloc | apply pw_below_drewN | apply below_drew1 | refine below_set ?_ GB35.out | refine below_set ?_ GE228.out | refine below_set ?_ GE229.out | refine below_set ?_ GE236.out) | exact HB.out)⟩
             (try clear HO_237000)
             (try clear HO_237001)
             (try clear BK228)
             (try clear BK229)
             (try clear BK236)
             (try clear HB)
             generalize (w36.setCell ⟨go35, (x7_1 : Int).toNat, none⟩ (.slice Ao39 y248.length co39)) = w40 at n0_ n1_ n2_ n3_ n4_ n5_ ⊢
             have HO_237000 := n0_
             have HO_237001 := n1_
             have BK228 := n2_
             have BK229 := n3_
             have BK236 := n4_
             have HB := n5_
             clear n0_ n1_ n2_ n3_ n4_ n5_
             have hcz41_0 : w40.cell? ⟨gb236, 0, none⟩ = some (u237000) := (blk_cell BK236.out 0).trans rfl
             have hcz41_1 : w40.cell? ⟨gb236, 1, none⟩ = some (.slice (some ⟨go35, 0, none⟩) x237001_1.length co19) := (blk_cell BK236.out 1).trans rfl
             have hfz41_0 := blk_frozen BK236.out 0
             have hfz41_1 := blk_frozen BK236.out 1
             obtain ⟨Ao42, co42, eo42⟩ := Kd.R_slice HO_237000.out
             subst eo42
             have hnb43 := NB229_228.out
             have hnc43 := NB228_229.out
             have hcz44_0 : w40.cell? ⟨gb229, 0, none⟩ = some (.slice none 0 0) := (blk_cell BK229.out 0).trans rfl
             have hcz44_1 : w40.cell? ⟨gb229, 1, none⟩ = some (.slice none 0 0) := (blk_cell BK229.out 1).trans rfl
             have hfz44_0 := blk_frozen BK229.out 0
             have hfz44_1 := blk_frozen BK229.out 1
             try go_wp2
             refine bodyPost_ret (results_ct rfl _ _ gb229 28 #[.slice Ao42 x237000_1.length co42, .slice (some ⟨go35, 0, none⟩) x237001_1.length co19] (0, 0) _ rfl (by (with_reducible repeat (first | refine blk_drewN ?_ _ | refine blk_drew ?_ | refine blk_alloc ?_ _)); refine blk_put (cs := #[.slice Ao42 x237000_1.length co42, .slice none 0 0]) ?_ 1 _ rfl; (with_reducible repeat (first | refine blk_drewN ?_ _ | refine blk_drew ?_ | refine blk_alloc ?_ _)); refine blk_put (cs := #[.slice none 0 0, .slice none 0 0]) ?_ 0 _ rfl; (with_reducible repeat (first | refine blk_drewN ?_ _ | refine blk_drew ?_ | refine blk_alloc ?_ _)); exact BK229.out) Try.underlying28 rfl (by kernel_rfl)) rfl ?_
             exact ⟨_, _, by first | rfl | (simp [errW_none, errW_some] <;> rfl) | (simp [*, errW_none, errW_some] <;> rfl), by (with_reducible repeat (first | apply Kd.R_alloc | apply Kd.R_drewN | apply Kd.R_drew)); exact Kd.R_mono (Kd.R_far (p := ⟨gb229, 1, none⟩) (Kd.R_far (p := ⟨gb229, 0, none⟩) (Kd.R_types HO_237000.out BK229.out (by decide)) (fun _ hk => hk.2) (.slice Ao42 x237000_1.length co42)) (fun _ hk => hk.2) (.slice (some ⟨go35, 0, none⟩) x237001_1.length co19)) (fun _ hk => trivial), by (with_reducible repeat (first | apply Kd.S_alloc | apply Kd.S_drewN | apply Kd.S_drew)); exact Kd.S_mono (Kd.S_far (p := ⟨gb229, 1, none⟩) (Kd.S_far (p := ⟨gb229, 0, none⟩) (Kd.S_types HO_237001.out BK229.out (by decide)) (fun _ hk => hk.2) (.slice Ao42 x237000_1.length co42)) (fun _ hk => hk.2) (.slice (some ⟨go35, 0, none⟩) x237001_1.length co19)) (fun _ hk => hk.1), by repeat (first | (with_reducible first | exact HB.out | apply below_alloc | apply pw_below_drewN | apply below_drew1 | refine below_set ?_ GE228.out | refine below_set ?_ GE229.out | refine below_set ?_ GE236.out) | exact HB.out)⟩
            ·rw [if_neg c29] at H
             exact absurd H (by simp)
           ·rw [if_neg c28] at H
            have c28b0 : (x8_2 == ((rd_L1 x237001_1 x7_1).length : Int)) = false := beq_eq_false_iff_ne.mpr c28
            have c28b1 : (x8_2 != ((rd_L1 x237001_1 x7_1).length : Int)) = true := bne_iff_ne.mpr c28
            obtain ⟨y255, hy255⟩ : ∃ y_ : List Int, y_ = ((rd_L1 x237001_1 x7_1).set (x8_2 : Int).toNat x1_1) := ⟨_, rfl⟩
            replace H : (spec_l9Insert.l0 k2 (rd (rd_L1 x237001_1 x7_1) x8_2) (wrap64 (x7_1 + 1)) x237000_1 (x237001_1.set (x7_1 : Int).toNat y255)) = some (r1, r2, r3) := by first | (rw [hy255]; with_reducible exact H) | (have H2_ := (Option.bind_some _ _).symm.trans H; rw [hy255]; with_reducible exact H2_) | (have H2_ := (Option.bind_some _ _).symm.trans H; with_reducible exact H2_) | with_reducible exact H | (rw [hy255]; exact H) | exact H
            have Ny255 := Aside0.mk hy255
            clear hy255
            obtain ⟨y257, hy257⟩ : ∃ y_ : List (List Int), y_ = (x237001_1.set (x7_1 : Int).toNat y255) := ⟨_, rfl⟩
            replace H : (spec_l9Insert.l0 k2 (rd (rd_L1 x237001_1 x7_1) x8_2) (wrap64 (x7_1 + 1)) x237000_1 y257) = some (r1, r2, r3) := by first | (rw [hy257]; with_reducible exact H) | (have H2_ := (Option.bind_some _ _).symm.trans H; rw [hy257]; with_reducible exact H2_) | (have H2_ := (Option.bind_some _ _).symm.trans H; with_reducible exact H2_) | with_reducible exact H | (rw [hy257]; exact H) | exact H
            have Ny257 := Aside0.mk hy257
            clear hy257
            have H' := Aside0.mk H
            clear H
            have hnb46 := NB236_228.out
            have hnc46 := NB228_236.out
            have hnb47 := NB236_229.out
            have hnc47 := NB229_236.out
            have hcz48_0 : wr.cell? ⟨gb236, 0, none⟩ = some (u237000) := (blk_cell BK236.out 0).trans rfl
            have hcz48_1 : wr.cell? ⟨gb236, 1, none⟩ = some (.slice Ao19 x237001_1.length co19) := (blk_cell BK236.out 1).trans rfl
            have hfz48_0 := blk_frozen BK236.out 0
            have hfz48_1 := blk_frozen BK236.out 1
            have p243 : 0 ≤ (x7_1 : Int) := of_decide_eq_true (by first | (with_reducible assumption) | assumption)
            have q243 : x7_1 < (x237001_1.length : Int) := of_decide_eq_true (by first | (with_reducible assumption) | assumption)
            obtain ⟨ad243, A243_0, c243_0, e243, hx243_0, hl243_0, hi243_0⟩ := at_L1 (Kd.S_reads' HO_237001.out).2.2 x7_1 p243 q243
            cases e243
            obtain ⟨ce243, hce243, hMe243, hcc243⟩ := Kd.S_get HO_237001.out [] x7_1 p243 (by first | exact q243 | exact of_decide_eq_true (by first | (with_reducible assumption) | assumption) | (have e_ := (Kd.S_reads' HO_237001.out).1; omega))
            obtain ⟨ve243_0, rfl, ge243_0⟩ := hMe243
            have hv243_0 := hcc243 0 _ rfl
            rw [Nat.add_zero, show ((Kd.slice 3 (Kd.int .i64))).sz = 1 from rfl, Nat.mul_one] at hv243_0
            replace hv243_0 := Option.some.inj (hv243_0.symm.trans hx243_0)
            rw [hv243_0] at ge243_0
            have HL243_0 := Aside0.mk (show Kd.R (Kd.int .i64) 3 _ _ _ _ (rd_L1 x237001_1 x7_1) from ge243_0)
            clear hv243_0 ge243_0
            have HX243_0 := Aside0.mk hx243_0
            clear hcc243 hce243
            have HR243_0 := Aside0.mk hi243_0
            have HC243_0 := Aside0.mk hl243_0
            clear hi243_0 hl243_0
            replace p243 := eq_true p243
            replace q243 := eq_true q243
            have p244 : 0 ≤ (x7_1 : Int) := of_decide_eq_true (by first | (with_reducible assumption) | assumption)
            have q244 : x7_1 < (x237001_1.length : Int) := of_decide_eq_true (by first | (with_reducible assumption) | assumption)
            obtain ⟨ad244, A244_0, c244_0, e244, hx244_0, hl244_0, hi244_0⟩ := at_L1 (Kd.S_reads' HO_237001.out).2.2 x7_1 p244 q244
            obtain rfl : ad243 = ad244 := (by injection e244)
            obtain ⟨ce244, hce244, hMe244, hcc244⟩ := Kd.S_get HO_237001.out [] x7_1 p244 (by first | exact q244 | exact of_decide_eq_true (by first | (with_reducible assumption) | assumption) | (have e_ := (Kd.S_reads' HO_237001.out).1; omega))
            obtain ⟨ve244_0, rfl, ge244_0⟩ := hMe244
            have hv244_0 := hcc244 0 _ rfl
            rw [Nat.add_zero, show ((Kd.slice 3 (Kd.int .i64))).sz = 1 from rfl, Nat.mul_one] at hv244_0
            replace hv244_0 := Option.some.inj (hv244_0.symm.trans hx244_0)
            rw [hv244_0] at ge244_0
            have HL244_0 := Aside0.mk (show Kd.R (Kd.int .i64) 3 _ _ _ _ (rd_L1 x237001_1 x7_1) from ge244_0)
            clear hv244_0 ge244_0
            have HX244_0 := Aside0.mk hx244_0
            clear hcc244 hce244
            have HR244_0 := Aside0.mk hi244_0
            have HC244_0 := Aside0.mk hl244_0
            clear hi244_0 hl244_0
            replace p244 := eq_true p244
            replace q244 := eq_true q244
            have ea_ := Option.some.inj (hx243_0.symm.trans hx244_0)
            injection ea_ with ea_ en_ ec_
            subst ea_
            subst ec_
            clear en_
            have p245 : 0 ≤ (x8_2 : Int) := of_decide_eq_true (by first | (with_reducible assumption) | assumption)
            have q245 : x8_2 < ((rd_L1 x237001_1 x7_1).length : Int) := of_decide_eq_true (by first | (with_reducible assumption) | assumption)
            obtain ⟨ad245, e245, hx245_0⟩ := Kd.at_int (by repeat (first | (with_reducible exact HR244_0.out) | (with_reducible refine Kd.C_alloc ?_ _) | (with_reducible refine Kd.C_drewN ?_ _) | (with_reducible refine Kd.C_drew ?_) | exact HR244_0.out)) x8_2 p245 q245
            cases e245
            replace p245 := eq_true p245
            replace q245 := eq_true q245
            have p246 : 0 ≤ (x7_1 : Int) := of_decide_eq_true (by first | (with_reducible assumption) | assumption)
            have q246 : x7_1 < (x237001_1.length : Int) := of_decide_eq_true (by first | (with_reducible assumption) | assumption)
            obtain ⟨ad246, A246_0, c246_0, e246, hx246_0, hl246_0, hi246_0⟩ := at_L1 (Kd.S_reads' HO_237001.out).2.2 x7_1 p246 q246
            obtain rfl : ad243 = ad246 := (by injection e246)
            obtain ⟨ce246, hce246, hMe246, hcc246⟩ := Kd.S_get HO_237001.out [] x7_1 p246 (by first | exact q246 | exact of_decide_eq_true (by first | (with_reducible assumption) | assumption) | (have e_ := (Kd.S_reads' HO_237001.out).1; omega))
            obtain ⟨ve246_0, rfl, ge246_0⟩ := hMe246
            have hv246_0 := hcc246 0 _ rfl
            rw [Nat.add_zero, show ((Kd.slice 3 (Kd.int .i64))).sz = 1 from rfl, Nat.mul_one] at hv246_0
            replace hv246_0 := Option.some.inj (hv246_0.symm.trans hx246_0)
            rw [hv246_0] at ge246_0
            have HL246_0 := Aside0.mk (show Kd.R (Kd.int .i64) 3 _ _ _ _ (rd_L1 x237001_1 x7_1) from ge246_0)
            clear hv246_0 ge246_0
            have HX246_0 := Aside0.mk hx246_0
            clear hcc246 hce246
            have HR246_0 := Aside0.mk hi246_0
            have HC246_0 := Aside0.mk hl246_0
            clear hi246_0 hl246_0
            replace p246 := eq_true p246
            replace q246 := eq_true q246
            have ea_ := Option.some.inj (hx243_0.symm.trans hx246_0)
            injection ea_ with ea_ en_ ec_
            subst ea_
            subst ec_
            clear en_
            have p252 : 0 ≤ (x7_1 : Int) := of_decide_eq_true (by first | (with_reducible assumption) | assumption)
            have q252 : x7_1 < (x237001_1.length : Int) := of_decide_eq_true (by first | (with_reducible assumption) | assumption)
            obtain ⟨ad252, A252_0, c252_0, e252, hx252_0, hl252_0, hi252_0⟩ := at_L1 (Kd.S_reads' HO_237001.out).2.2 x7_1 p252 q252
            obtain rfl : ad243 = ad252 := (by injection e252)
            obtain ⟨ce252, hce252, hMe252, hcc252⟩ := Kd.S_get HO_237001.out [] x7_1 p252 (by first | exact q252 | exact of_decide_eq_true (by first | (with_reducible assumption) | assumption) | (have e_ := (Kd.S_reads' HO_237001.out).1; omega))
            obtain ⟨ve252_0, rfl, ge252_0⟩ := hMe252
            have hv252_0 := hcc252 0 _ rfl
            rw [Nat.add_zero, show ((Kd.slice 3 (Kd.int .i64))).sz = 1 from rfl, Nat.mul_one] at hv252_0
            replace hv252_0 := Option.some.inj (hv252_0.symm.trans hx252_0)
            rw [hv252_0] at ge252_0
            have HL252_0 := Aside0.mk (show Kd.R (Kd.int .i64) 3 _ _ _ _ (rd_L1 x237001_1 x7_1) from ge252_0)
            clear hv252_0 ge252_0
            have HX252_0 := Aside0.mk hx252_0
            clear hcc252 hce252
            have HR252_0 := Aside0.mk hi252_0
            have HC252_0 := Aside0.mk hl252_0
            clear hi252_0 hl252_0
            replace p252 := eq_true p252
            replace q252 := eq_true q252
            have ea_ := Option.some.inj (hx243_0.symm.trans hx252_0)
            injection ea_ with ea_ en_ ec_
            subst ea_
            subst ec_
            clear en_
            have p253 : 0 ≤ (x8_2 : Int) := of_decide_eq_true (by first | (with_reducible assumption) | assumption)
            have q253 : x8_2 < ((rd_L1 x237001_1 x7_1).length : Int) := of_decide_eq_true (by first | (with_reducible assumption) | assumption)
            obtain ⟨ad253, e253, hx253_0⟩ := Kd.at_int (by repeat (first | (with_reducible exact HR252_0.out) | (with_reducible refine Kd.C_alloc ?_ _) | (with_reducible refine Kd.C_drewN ?_ _) | (with_reducible refine Kd.C_drew ?_) | exact HR252_0.out)) x8_2 p253 q253
            cases e253
            replace p253 := eq_true p253
            replace q253 := eq_true q253
            have p254 : 0 ≤ (x7_1 : Int) := of_decide_eq_true (by first | (with_reducible assumption) | assumption)
            have q254 : x7_1 < (x237001_1.length : Int) := of_decide_eq_true (by first | (with_reducible assumption) | assumption)
            obtain ⟨ad254, A254_0, c254_0, e254, hx254_0, hl254_0, hi254_0⟩ := at_L1 (Kd.S_reads' HO_237001.out).2.2 x7_1 p254 q254
            obtain rfl : ad243 = ad254 := (by injection e254)
            obtain ⟨ce254, hce254, hMe254, hcc254⟩ := Kd.S_get HO_237001.out [] x7_1 p254 (by first | exact q254 | exact of_decide_eq_true (by first | (with_reducible assumption) | assumption) | (have e_ := (Kd.S_reads' HO_237001.out).1; omega))
            obtain ⟨ve254_0, rfl, ge254_0⟩ := hMe254
            have hv254_0 := hcc254 0 _ rfl
            rw [Nat.add_zero, show ((Kd.slice 3 (Kd.int .i64))).sz = 1 from rfl, Nat.mul_one] at hv254_0
            replace hv254_0 := Option.some.inj (hv254_0.symm.trans hx254_0)
            rw [hv254_0] at ge254_0
            have HL254_0 := Aside0.mk (show Kd.R (Kd.int .i64) 3 _ _ _ _ (rd_L1 x237001_1 x7_1) from ge254_0)
            clear hv254_0 ge254_0
            have HX254_0 := Aside0.mk hx254_0
            clear hcc254 hce254
            have HR254_0 := Aside0.mk hi254_0
            have HC254_0 := Aside0.mk hl254_0
            clear hi254_0 hl254_0
            replace p254 := eq_true p254
            replace q254 := eq_true q254
            have ea_ := Option.some.inj (hx243_0.symm.trans hx254_0)
            injection ea_ with ea_ en_ ec_
            subst ea_
            subst ec_
            clear en_
            have p45 : 0 ≤ (x8_2 : Int) := of_decide_eq_true (by first | (with_reducible assumption) | assumption)
            have q45 : (x8_2 : Int) < (((rd_L1 x237001_1 x7_1).length : Int) : Int) := of_decide_eq_true (by first | (with_reducible assumption) | assumption)
            obtain ⟨go45, co45, eo45, gb45, gl45, cl45, HG45⟩ := Kd.R_form HL254_0.out (by omega)
            (first | cases eo45 | (injection eo45 with ea_ en_ ec_; (first | subst ea_ | (injection ea_ with ea_; subst ea_)); subst ec_; clear en_))
            have GB45 := Aside0.mk gb45
            have GG45 := Aside0.mk HG45
            clear gb45 gl45 HG45
            (first | simp only [add_plain] at hx253_0 | skip)
            obtain ⟨hx45_0, hf45_0⟩ := Kd.R_celln 0 HL254_0.out (x8_2 : Int) p45 q45
            replace p45 := eq_true p45
            replace q45 := eq_true q45
            have hq49 : (x7_1 : Int) < (x237001_1.length : Int) := (by have h_ : (x7_1 : Int) < ((x237001_1.length : Int) : Int) := of_decide_eq_true (by first | (with_reducible assumption) | assumption); first | exact h_ | (have e_ := (Kd.S_reads' HO_237001.out).1; omega) | simpa only [List.length_set, List.length_set] using h_)
            obtain ⟨oki49, ce49, hcl49, hM49, hcc49, hok49, hbk49⟩ := Kd.S_borrow HO_237001.out [] (x7_1 : Int) (of_decide_eq_true (by first | (with_reducible assumption) | assumption)) hq49
            obtain ⟨ve49_0, rfl, ge49_0⟩ := hM49
            have hv49 := hcc49 0 _ rfl
            rw [Nat.add_zero, show ((Kd.slice 3 (Kd.int .i64))).sz = 1 from rfl, Nat.mul_one] at hv49
            replace hv49 := Option.some.inj (hv49.symm.trans HX254_0.out)
            subst hv49
            clear hcc49 hcl49
            replace ge49_0 := (show Kd.R (Kd.int .i64) 3 _ _ _ _ (rd_L1 x237001_1 x7_1) from ge49_0)
            have HP49 := Kd.R_putg ge49_0 (x8_2 : Int) x1_1
            go_wp2_with (first | ((with_reducible refine gate_store (t := 3) (p := 78) rfl ?_); refine store_event (t := 3) (p := 78) (v := ?vo_w50) (w1 := (wr.setCell ⟨go45, (x8_2 : Int).toNat, none⟩ (.int .i64 x1_1))) ?hg ?ho ?hn ?hr ?_; (case ho => rfl); (case hg => rfl); (case hn => rfl); (case hr => first | (go_simp; done) | (go_simp; rfl)); intro w50 hw; have hg : wr.grownBy w50 (some go45) := (by rw [hw]; exact HP49.2); have hz_ : Kd.R (Kd.int .i64) 3 w50 w.heap.size oki49 (.slice (some ⟨go45, 0, none⟩) (rd_L1 x237001_1 x7_1).length c243_0) y255 := (by rw [hw, Ny255.out]; exact HP49.1); have hp_ : Kd.S (Kd.slice 3 (Kd.int .i64)) 22 w50 w.heap.size (fun k_ => some k_ ≠ (u237000 : Value).ownBlock) (.slice (some ad243) x237001_1.length co19) y257 := (by rw [Ny257.out]; exact hbk49 hg (fun k_ e_ => by injection e_ with e_; subst e_; exact ge49_0.1 _ rfl) (Kd.M_row hz_)); have hm_ := Kd.R_mono hz_ hok49; clear HP49 hbk49; have n0_ := Aside0.mk (Kd.R_grown1 (by (with_reducible repeat (first | apply Kd.R_alloc | apply Kd.R_drewN | apply Kd.R_drew)); exact HO_237000.out) rfl hg ((HL254_0.out.1 _ rfl).1)); have n1_ := Aside0.mk (hp_); have n2_ := Aside0.mk (blk_grown (g := gb228) (o := .cells #[.slice A0_0 l0_0.length c0_0, .slice A0_1 l0_1.length c0_1] 28 (0, 0)) (by (with_reducible repeat (first | refine blk_drewN ?_ _ | refine blk_drew ?_ | refine blk_alloc ?_ _)); exact BK228.out) hg (Kd.R_ne HL254_0.out BK228.out (by decide))); have n3_ := Aside0.mk (blk_grown (g := gb229) (o := .cells #[.slice none 0 0, .slice none 0 0] 28 (0, 0)) (by (with_reducible repeat (first | refine blk_drewN ?_ _ | refine blk_drew ?_ | refine blk_alloc ?_ _)); exact BK229.out) hg (Kd.R_ne HL254_0.out BK229.out (by decide))); have n4_ := Aside0.mk (blk_grown (g := gb236) (o := .cells #[u237000, .slice (some ad243) x237001_1.length co19] 28 (0, 0)) (by (with_reducible repeat (first | refine blk_drewN ?_ _ | refine blk_drew ?_ | refine blk_alloc ?_ _)); exact BK236.out) hg (Kd.R_ne HL254_0.out BK236.out (by decide))); have n5_ := Aside0.mk ((by rw [hw]; exact below_set (HB.out) GB45.out : Below w.heap.size w w50)); have n6_ := Aside0.mk (hm_); have n7_ := Aside0.mk ((Kd.R_reads' hm_).2.1); clear HO_237000; clear HO_237001; clear BK228; clear BK229; clear BK236; clear HB; clear HL243_0; clear HL244_0; clear HL246_0; clear HL252_0; clear HL254_0; have HO_237000 := n0_; have HO_237001 := n1_; have BK228 := n2_; have BK229 := n3_; have BK236 := n4_; have HB := n5_; have HL265 := n6_; have HC256 := n7_; clear n0_ n1_ n2_ n3_ n4_ n5_ n6_ n7_; clear hg hw hp_ hz_ hm_ hok49))
            go_roundg k2
            case measure => have := HK1.out; have := HK2.out; omega
            case rel => exact ⟨(rd (rd_L1 x237001_1 x7_1) x8_2), (wrap64 (x7_1 + 1)), (x237000_1), (y257), (u237000), (.slice (some ad243) x237001_1.length co19), (by first | rfl | (simp; done) | (simp [*]; done)), (by first | rfl | (simp; done) | (simp [*]; done)), H', ⟨by have := HK1.out; have := HK2.out; omega⟩, ⟨by (with_reducible repeat (first | apply Kd.R_alloc | apply Kd.R_drewN | apply Kd.R_drew)); exact HO_237000.out⟩, ⟨by (with_reducible repeat (first | apply Kd.S_alloc | apply Kd.S_drewN | apply Kd.S_drew)); exact HO_237001.out⟩, ⟨by (with_reducible repeat (first | refine blk_drewN ?_ _ | refine blk_drew ?_ | refine blk_alloc ?_ _)); exact BK228.out⟩, ⟨by (with_reducible repeat (first | refine blk_drewN ?_ _ | refine blk_drew ?_ | refine blk_alloc ?_ _)); exact BK229.out⟩, ⟨by (with_reducible repeat (first | refine blk_drewN ?_ _ | refine blk_drew ?_ | refine blk_alloc ?_ _)); exact BK236.out⟩, ⟨by repeat (first | (with_reducible first | exact HB.out | apply below_alloc | apply pw_below_drewN | apply below_drew1 | refine below_set ?_ GE228.out | refine below_set ?_ GE229.out | refine below_set ?_ GE236.out) | exact HB.out)⟩⟩
         ·rw [if_neg c23] at H
          exact absurd H (by simp)
        ·rw [if_neg c22] at H
         have c22b0 : decide (x8_2 < ((rd_L1 x237001_1 x7_1).length : Int)) = false := decide_eq_false c22
         clear c22
         by_cases c51 : x8_2 = ((rd_L1 x237001_1 x7_1).length : Int)
         ·rw [if_pos c51] at H
          have c51b0 : (x8_2 == ((rd_L1 x237001_1 x7_1).length : Int)) = true := beq_iff_eq.mpr c51
          have c51b1 : (x8_2 != ((rd_L1 x237001_1 x7_1).length : Int)) = false := bne_eq_false_iff_eq.mpr c51
          clear c51
          by_cases c52 : (rd_L1 x237001_1 x7_1).length < 17592186044416
          ·rw [if_pos c52] at H
           have LMc52 := Aside0.mk c52
           clear c52
           obtain ⟨y260, hy260⟩ : ∃ y_ : List Int, y_ = ((rd_L1 x237001_1 x7_1) ++ [x1_1]) := ⟨_, rfl⟩
           replace H : (some (x237000_1, (x237001_1.set (x7_1 : Int).toNat y260), x7_1)) = some (r1, r2, r3) := by first | (rw [hy260]; with_reducible exact H) | (have H2_ := (Option.bind_some _ _).symm.trans H; rw [hy260]; with_reducible exact H2_) | (have H2_ := (Option.bind_some _ _).symm.trans H; with_reducible exact H2_) | with_reducible exact H | (rw [hy260]; exact H) | exact H
           have Ny260 := Aside0.mk hy260
           clear hy260
           obtain ⟨y263, hy263⟩ : ∃ y_ : List (List Int), y_ = (x237001_1.set (x7_1 : Int).toNat y260) := ⟨_, rfl⟩
           replace H : (some (x237000_1, y263, x7_1)) = some (r1, r2, r3) := by first | (rw [hy263]; with_reducible exact H) | (have H2_ := (Option.bind_some _ _).symm.trans H; rw [hy263]; with_reducible exact H2_) | (have H2_ := (Option.bind_some _ _).symm.trans H; with_reducible exact H2_) | with_reducible exact H | (rw [hy263]; exact H) | exact H
           have Ny263 := Aside0.mk hy263
           clear hy263
           simp only [Option.some.injEq, Prod.mk.injEq] at H
           obtain ⟨rfl, rfl, rfl⟩ := H
           have hnb54 := NB236_228.out
           have hnc54 := NB228_236.out
           have hnb55 := NB236_229.out
           have hnc55 := NB229_236.out
           have hcz56_0 : wr.cell? ⟨gb236, 0, none⟩ = some (u237000) := (blk_cell BK236.out 0).trans rfl
           have hcz56_1 : wr.cell? ⟨gb236, 1, none⟩ = some (.slice Ao19 x237001_1.length co19) := (blk_cell BK236.out 1).trans rfl
           have hfz56_0 := blk_frozen BK236.out 0
           have hfz56_1 := blk_frozen BK236.out 1
           have p243 : 0 ≤ (x7_1 : Int) := of_decide_eq_true (by first | (with_reducible assumption) | assumption)
           have q243 : x7_1 < (x237001_1.length : Int) := of_decide_eq_true (by first | (with_reducible assumption) | assumption)
           obtain ⟨ad243, A243_0, c243_0, e243, hx243_0, hl243_0, hi243_0⟩ := at_L1 (Kd.S_reads' HO_237001.out).2.2 x7_1 p243 q243
           cases e243
           obtain ⟨ce243, hce243, hMe243, hcc243⟩ := Kd.S_get HO_237001.out [] x7_1 p243 (by first | exact q243 | exact of_decide_eq_true (by first | (with_reducible assumption) | assumption) | (have e_ := (Kd.S_reads' HO_237001.out).1; omega))
           obtain ⟨ve243_0, rfl, ge243_0⟩ := hMe243
           have hv243_0 := hcc243 0 _ rfl
           rw [Nat.add_zero, show ((Kd.slice 3 (Kd.int .i64))).sz = 1 from rfl, Nat.mul_one] at hv243_0
           replace hv243_0 := Option.some.inj (hv243_0.symm.trans hx243_0)
           rw [hv243_0] at ge243_0
           have HL243_0 := Aside0.mk (show Kd.R (Kd.int .i64) 3 _ _ _ _ (rd_L1 x237001_1 x7_1) from ge243_0)
           clear hv243_0 ge243_0
           have HX243_0 := Aside0.mk hx243_0
           clear hcc243 hce243
           have HR243_0 := Aside0.mk hi243_0
           have HC243_0 := Aside0.mk hl243_0
           clear hi243_0 hl243_0
           replace p243 := eq_true p243
           replace q243 := eq_true q243
           have p258 : 0 ≤ (x7_1 : Int) := of_decide_eq_true (by first | (with_reducible assumption) | assumption)
           have q258 : x7_1 < (x237001_1.length : Int) := of_decide_eq_true (by first | (with_reducible assumption) | assumption)
           obtain ⟨ad258, A258_0, c258_0, e258, hx258_0, hl258_0, hi258_0⟩ := at_L1 (Kd.S_reads' HO_237001.out).2.2 x7_1 p258 q258
           obtain rfl : ad243 = ad258 := (by injection e258)
           obtain ⟨ce258, hce258, hMe258, hcc258⟩ := Kd.S_get HO_237001.out [] x7_1 p258 (by first | exact q258 | exact of_decide_eq_true (by first | (with_reducible assumption) | assumption) | (have e_ := (Kd.S_reads' HO_237001.out).1; omega))
           obtain ⟨ve258_0, rfl, ge258_0⟩ := hMe258
           have hv258_0 := hcc258 0 _ rfl
           rw [Nat.add_zero, show ((Kd.slice 3 (Kd.int .i64))).sz = 1 from rfl, Nat.mul_one] at hv258_0
           replace hv258_0 := Option.some.inj (hv258_0.symm.trans hx258_0)
           rw [hv258_0] at ge258_0
           have HL258_0 := Aside0.mk (show Kd.R (Kd.int .i64) 3 _ _ _ _ (rd_L1 x237001_1 x7_1) from ge258_0)
           clear hv258_0 ge258_0
           have HX258_0 := Aside0.mk hx258_0
           clear hcc258 hce258
           have HR258_0 := Aside0.mk hi258_0
           have HC258_0 := Aside0.mk hl258_0
           clear hi258_0 hl258_0
           replace p258 := eq_true p258
           replace q258 := eq_true q258
           have ea_ := Option.some.inj (hx243_0.symm.trans hx258_0)
           injection ea_ with ea_ en_ ec_
           subst ea_
           subst ec_
           clear en_
           try go_wp2
           have n0_ := Aside0.mk (Kd.R_drew HO_237000.out)
           have n1_ := Aside0.mk (Kd.S_drew HO_237001.out)
           have n2_ := Aside0.mk (Kd.R_drew HL243_0.out)
           have n3_ := Aside0.mk (Kd.R_drew HL258_0.out)
           have n4_ := Aside0.mk (blk_drew BK228.out)
           have n5_ := Aside0.mk (blk_drew BK229.out)
           have n6_ := Aside0.mk (blk_drew BK236.out)
           have n7_ := Aside0.mk (Kd.C_drew HR243_0.out)
           have n8_ := Aside0.mk (Kd.C_drew HR258_0.out)
           have n9_ := Aside0.mk (below_drew1 HB.out)
           clear HO_237000
           clear HO_237001
           clear HL243_0
           clear HL258_0
           clear BK228
           clear BK229
           clear BK236
           clear HR243_0
           clear HR258_0
           clear HB
           have HO_237000 := n0_
           have HO_237001 := n1_
           have HL243_0 := n2_
           have HL258_0 := n3_
           have BK228 := n4_
           have BK229 := n5_
           have BK236 := n6_
           have HR243_0 := n7_
           have HR258_0 := n8_
           have HB := n9_
           clear n0_ n1_ n2_ n3_ n4_ n5_ n6_ n7_ n8_ n9_
           have p259 : 0 ≤ (x7_1 : Int) := of_decide_eq_true (by first | (with_reducible assumption) | assumption)
           have q259 : x7_1 < (x237001_1.length : Int) := of_decide_eq_true (by first | (with_reducible assumption) | assumption)
           obtain ⟨ad259, A259_0, c259_0, e259, hx259_0, hl259_0, hi259_0⟩ := at_L1 (Kd.S_reads' HO_237001.out).2.2 x7_1 p259 q259
           obtain rfl : ad243 = ad259 := (by injection e259)
           obtain ⟨ce259, hce259, hMe259, hcc259⟩ := Kd.S_get HO_237001.out [] x7_1 p259 (by first | exact q259 | exact of_decide_eq_true (by first | (with_reducible assumption) | assumption) | (have e_ := (Kd.S_reads' HO_237001.out).1; omega))
           obtain ⟨ve259_0, rfl, ge259_0⟩ := hMe259
           have hv259_0 := hcc259 0 _ rfl
           rw [Nat.add_zero, show ((Kd.slice 3 (Kd.int .i64))).sz = 1 from rfl, Nat.mul_one] at hv259_0
           replace hv259_0 := Option.some.inj (hv259_0.symm.trans hx259_0)
           rw [hv259_0] at ge259_0
           have HL259_0 := Aside0.mk (show Kd.R (Kd.int .i64) 3 _ _ _ _ (rd_L1 x237001_1 x7_1) from ge259_0)
           clear hv259_0 ge259_0
           have HX259_0 := Aside0.mk hx259_0
           clear hcc259 hce259
           have HR259_0 := Aside0.mk hi259_0
           have HC259_0 := Aside0.mk hl259_0
           clear hi259_0 hl259_0
           replace p259 := eq_true p259
           replace q259 := eq_true q259
           obtain ⟨go58, co58, eo58, gb58, gl58, cl58, HG58⟩ := Kd.S_form HO_237001.out (by have h_ : (x7_1 : Int) < ((x237001_1.length : Int) : Int) := of_decide_eq_true (by first | (with_reducible assumption) | assumption); have h2_ : 0 ≤ (x7_1 : Int) := (of_decide_eq_true (by first | (with_reducible assumption) | assumption)); omega)
           (first | cases eo58 | (injection eo58 with ea_ en_ ec_; (first | subst ea_ | (injection ea_ with ea_; subst ea_)); subst ec_; clear en_))
           have GB58 := Aside0.mk gb58
           have GG58 := Aside0.mk HG58
           clear gb58 gl58 HG58
           (first | simp only [add_plain] at hx243_0 | skip)
           (first | simp only [add_plain] at hx244_0 | skip)
           (first | simp only [add_plain] at hx246_0 | skip)
           (first | simp only [add_plain] at hx252_0 | skip)
           (first | simp only [add_plain] at hx254_0 | skip)
           (first | simp only [add_plain] at hx258_0 | skip)
           (first | simp only [add_plain] at hx259_0 | skip)
           obtain ⟨oki58, ce58, hcl58, hM58, hcc58, _, _, hH58⟩ := Kd.S_elem HO_237001.out [] (x7_1 : Int) (of_decide_eq_true (by first | (with_reducible assumption) | assumption)) (by have h_ : (x7_1 : Int) < ((x237001_1.length : Int) : Int) := of_decide_eq_true (by first | (with_reducible assumption) | assumption); first | exact h_ | (have e_ := (Kd.S_reads' HO_237001.out).1; omega) | simpa using h_)
           obtain ⟨ve58_0, rfl, ge58_0⟩ := hM58
           have hv58 := hcc58 0 _ rfl
           have hX58 := HX259_0.out
           (try simp only [add_plain] at hX58)
           (try simp only [Nat.add_zero] at hv58)
           (try rw [show ((Kd.slice 3 (Kd.int .i64))).sz = 1 from rfl, Nat.mul_one] at hv58)
           replace hv58 := Option.some.inj (hv58.symm.trans hX58)
           subst hv58
           clear hX58 hcc58 hcl58
           have UU58 := Aside0.mk (show Kd.R (Kd.int .i64) 3 _ w.heap.size oki58 (.slice A259_0 (rd_L1 x237001_1 x7_1).length c259_0) (rd_L1 x237001_1 x7_1) from ge58_0)
           have HH58 := Aside0.mk hH58
           have HN58 := Aside0.mk (Kd.S_reads' HO_237001.out).1
           clear hH58 ge58_0
           refine start_ (n := 13) (S := fun w' => w'.cell? ⟨gb236, 0, none⟩ = some (u237000) ∧ w'.cell? ⟨gb236, 1, none⟩ = some (.slice (some ⟨go58, 0, none⟩) x237001_1.length co19) ∧ w'.cell? ⟨go58, (x7_1).toNat, none⟩ = some (.slice A259_0 (rd_L1 x237001_1 x7_1).length c259_0)) (ds := [12]) zB7_0 (by kernel_rfl) rfl rfl ⟨(blk_cell BK236.out 0).trans rfl, (blk_cell BK236.out 1).trans rfl, hx259_0⟩ (fun hHeld => ?_); refine with_tabW spec_l9Insert.tab9 spec_l9Insert.bits9 (fun HT_ HW_ => ?_)
           generalize wr.drew = w57 at HO_237000 HO_237001 HL243_0 HL258_0 BK228 BK229 BK236 HR243_0 HR258_0 HB GG58 HH58 HL259_0 HR259_0 HX259_0 UU58 hx243_0 hx258_0 hx259_0 hHeld ⊢
           refine zP (i := 0) (N := some 49) zB7_1 (any_of HT_.out (by kernel_rfl)) ?_
           refine zP (i := 2) (N := some 51) zB7_2 (any_of HT_.out (by kernel_rfl)) ?_
           refine zP (i := 3) (N := some 52) zB7_3 (any_of HT_.out (by kernel_rfl)) ?_
           refine zP (i := 5) (N := some 54) zB7_4 (any_of HT_.out (by kernel_rfl)) ?_
           refine zP (i := 8) (N := some 57) zB7_5 (any_of HT_.out (by kernel_rfl)) ?_
           refine zT3 (i := 1) (N := some 50) zB7_6 (take_ofW HT_.out HW_.out (by kernel_rfl)) hHeld ?_
           refine zT3 (i := 4) (N := some 53) zB7_7 (take_ofW HT_.out HW_.out (by kernel_rfl)) hHeld ?_
           refine zP (i := 6) (N := some 55) zB7_8 (any_of HT_.out (by kernel_rfl)) ?_
           refine zT3 (i := 7) (N := some 56) zB7_9 (take_ofW HT_.out HW_.out (by kernel_rfl)) hHeld ?_
           refine one_ (i := 9) (N := some 58) zB7_10 rfl rfl (one_of HT_.out (by kernel_rfl)) (by decide) (fun K hK => ?_)
           refine value_ (w1 := ?_) (v := ?_) (by rfl) rfl ?_ ?_
           rotate_left 2
           ·go_simp
            constructor
            ·rfl
            ·rfl
           refine hK.out _ _ ⟨(blk_cell (blk_alloc BK236.out _) 0).trans rfl, (blk_cell (blk_alloc BK236.out _) 1).trans rfl, (World.cell?_alloc_lt _ _ _ (World.block_lt_of_cell? _ _ (hHeld.2.2))).trans (hHeld.2.2)⟩ (fun hHeld => ?_)
           clear hK K
           refine norm_ (a' := ?_) ?_ ?_
           rotate_left
           ·show Act.put _ (some 58) _ = _
            simp only [Act.put, List.setIfInBounds_toArray, List.set_cons_zero, List.set_cons_succ, i64_w, i32_w]
            rfl
           refine one_ (i := 10) (N := some 59) zB7_11 rfl rfl (one_of HT_.out (by kernel_rfl)) (by decide) (fun K hK => ?_)
           refine Kd.R_append_step (Kd.int .i64) (w0 := w) w.heap.size (by rfl) (.tmp 56) (.tmp 58) 22 3 (.int .i64 0) 8 rfl Try.underlying22 info3 rfl (by decide) (by omega) (.slice A259_0 (rd_L1 x237001_1 x7_1).length c259_0) (rd_L1 x237001_1 x7_1) x1_1 [.int .i64 x1_1] (fun k_ => oki58 k_ ∨ ((fun k_ => some k_ ≠ (u237000 : Value).ownBlock)) k_ ∧ w57.heap.size ≤ k_) (fun _ => False) rfl rfl ?aP (fun _ hk => hk.elim) ?aF ?aO ?aB ?aS ?aL ?_
           (case aP => exact rfl)
           (case aB => exact (by repeat (first | (with_reducible first | exact HB.out | apply below_alloc | apply pw_below_drewN | apply below_drew1 | refine below_set ?_ GE228.out | refine below_set ?_ GE229.out | refine below_set ?_ GE236.out) | exact HB.out)))
           (case aF => exact (fun k_ hk => .inr ⟨Kd.fresh' (Kd.R_lt (by (with_reducible repeat (first | apply Kd.R_alloc | apply Kd.R_drewN | apply Kd.R_drew)); exact HO_237000.out)) k_ hk, hk⟩))
           (case aO => exact (by (with_reducible repeat (first | apply Kd.R_alloc | apply Kd.R_drewN | apply Kd.R_drew)); exact Kd.R_mono UU58.out (fun _ hk => .inl hk)))
           (case aS => exact (below_size (by repeat (first | (with_reducible first | exact HB.out | apply below_alloc | apply pw_below_drewN | apply below_drew1 | refine below_set ?_ GE228.out | refine below_set ?_ GE229.out | refine below_set ?_ GE236.out) | exact HB.out))))
           (case aL => have := LMc52.out; omega)
           intro v261 w59 ho hb hg hat
           (first | have HS2_ := cell_grown hg (hHeld.2.2) (by first | (rw [add_block]; exact (fun e_ => ((HL259_0.out.1 _ e_.symm).2) rfl)) | (show some (Addr.add _ _).block ≠ _; rw [add_block]; exact (fun e_ => ((HL259_0.out.1 _ e_.symm).2) rfl)) | exact (fun e_ => ((HL259_0.out.1 _ e_.symm).2) rfl)) | have HS2_ := cell_grown hg (cell_unalloc (hHeld.2.2) (by first | (rw [add_block]; exact Kd.S_lt HO_237001.out _ rfl) | (show (Addr.add _ _).block < _; rw [add_block]; exact Kd.S_lt HO_237001.out _ rfl) | exact Kd.S_lt HO_237001.out _ rfl)) (by first | (rw [add_block]; exact (fun e_ => ((HL259_0.out.1 _ e_.symm).2) rfl)) | (show some (Addr.add _ _).block ≠ _; rw [add_block]; exact (fun e_ => ((HL259_0.out.1 _ e_.symm).2) rfl)) | exact (fun e_ => ((HL259_0.out.1 _ e_.symm).2) rfl)))
           rw [← Ny260.out] at ho
           have n0_ := Aside0.mk (Kd.R_grown2 (by (with_reducible repeat (first | apply Kd.R_alloc | apply Kd.R_drewN | apply Kd.R_drew)); exact HO_237000.out) rfl hg (fun k_ e_ => (HL259_0.out.1 k_ e_).1))
           have n1_ := Aside0.mk (blk_grown (g := gb228) (o := .cells #[.slice A0_0 l0_0.length c0_0, .slice A0_1 l0_1.length c0_1] 28 (0, 0)) (by (with_reducible repeat (first | refine blk_drewN ?_ _ | refine blk_drew ?_ | refine blk_alloc ?_ _)); exact BK228.out) hg (Kd.R_ne HL259_0.out BK228.out (by decide)))
           have n2_ := Aside0.mk (blk_grown (g := gb229) (o := .cells #[.slice none 0 0, .slice none 0 0] 28 (0, 0)) (by (with_reducible repeat (first | refine blk_drewN ?_ _ | refine blk_drew ?_ | refine blk_alloc ?_ _)); exact BK229.out) hg (Kd.R_ne HL259_0.out BK229.out (by decide)))
           have n3_ := Aside0.mk (blk_grown (g := gb236) (o := .cells #[u237000, .slice (some ⟨go58, 0, none⟩) x237001_1.length co19] 28 (0, 0)) (by (with_reducible repeat (first | refine blk_drewN ?_ _ | refine blk_drew ?_ | refine blk_alloc ?_ _)); exact BK236.out) hg (Kd.R_ne HL259_0.out BK236.out (by decide)))
           have n4_ := Aside0.mk (hb)
           have n5_ := Aside0.mk (Kd.H_grown (Kd.H_widen (by repeat (first | exact HH58.out | refine Kd.H_alloc ?_ _ | refine Kd.H_drewN ?_ _ | refine Kd.H_drew ?_))) hg (fun k_ e_ => .inl (UU58.out.1 k_ e_)))
           have n6_ := Aside0.mk (ho)
           clear HO_237000
           clear BK228
           clear BK229
           clear BK236
           clear HB
           clear HH58
           clear HO_237001
           clear UU58
           clear HL243_0
           clear HL258_0
           clear HL259_0
           have HO_237000 := n0_
           have BK228 := n1_
           have BK229 := n2_
           have BK236 := n3_
           have HB := n4_
           have HH58 := n5_
           have HO262 := n6_
           clear n0_ n1_ n2_ n3_ n4_ n5_ n6_
           clear ho hb hg hat
           have p53 : 0 ≤ (x7_1 : Int) := of_decide_eq_true (by first | (with_reducible assumption) | assumption)
           have q53 : (x7_1 : Int) < ((x237001_1.length : Int) : Int) := of_decide_eq_true (by first | (with_reducible assumption) | assumption)
           replace p53 := eq_true p53
           replace q53 := eq_true q53
           obtain ⟨Ao62, co62, eo62⟩ := Kd.R_slice HO262.out
           (first | subst eo62 | (injection eo62 with f1_ f2_ f3_; have f4_ := f1_.symm; have f5_ := f3_.symm; clear f1_ f2_ f3_; subst f4_; subst f5_))
           obtain ⟨_, _, hraw60, _, _, hcc60, _⟩ := Kd.H_raw HH58.out (of_decide_eq_true (by first | (with_reducible assumption) | assumption)) (by have h_ : (x7_1 : Int) < ((x237001_1.length : Int) : Int) := of_decide_eq_true (by first | (with_reducible assumption) | assumption); first | exact h_ | (have e_ := (HN58.out); omega) | simpa using h_)
           obtain ⟨_, hfr60⟩ := Kd.H_at HH58.out (of_decide_eq_true (by first | (with_reducible assumption) | assumption)) (by have h_ : (x7_1 : Int) < ((x237001_1.length : Int) : Int) := of_decide_eq_true (by first | (with_reducible assumption) | assumption); first | exact h_ | (have e_ := (HN58.out); omega) | simpa using h_)
           have hx60_0 := hcc60 0 _ rfl
           have hf60_0 := hfr60 0
           (try simp only [Nat.add_zero] at hx60_0 hf60_0)
           (try rw [show ((Kd.slice 3 (Kd.int .i64))).sz = 1 from rfl, Nat.mul_one] at hx60_0)
           (try rw [show ((Kd.slice 3 (Kd.int .i64))).sz = 1 from rfl, Nat.mul_one] at hf60_0)
           have HP60 := Kd.S_seg0 HH58.out (of_decide_eq_true (by first | (with_reducible assumption) | assumption)) (by have h_ : (x7_1 : Int) < ((x237001_1.length : Int) : Int) := of_decide_eq_true (by first | (with_reducible assumption) | assumption); first | exact h_ | (have e_ := (HN58.out); omega) | simpa using h_) (seg := [.slice Ao62 y260.length co62]) (j := 0) (show 1 ≤ 1 from by decide) (x' := y260) (Kd.M_row HO262.out) (fun _ hk => hk)
           (try simp only [show ((Kd.slice 3 (Kd.int .i64))).sz = 1 from rfl, Nat.mul_one, Nat.add_zero] at HP60)
           clear hcc60 hfr60
           have HNB228_go58 := Aside0.mk (show gb228 ≠ go58 from by have h_ := Kd.R_ne hraw60 BK228.out (by decide); intro e_; exact h_ (by rw [e_]; rfl))
           have HNB229_go58 := Aside0.mk (show gb229 ≠ go58 from by have h_ := Kd.R_ne hraw60 BK229.out (by decide); intro e_; exact h_ (by rw [e_]; rfl))
           have HNB236_go58 := Aside0.mk (show gb236 ≠ go58 from by have h_ := Kd.R_ne hraw60 BK236.out (by decide); intro e_; exact h_ (by rw [e_]; rfl))
           have HS60 := HP60.1
           rw [← Ny263.out] at HS60
           have HQ60 := Aside0.mk HS60
           obtain ⟨_, hgg60⟩ := Kd.R_typed hraw60 go58 rfl
           have GG60_ := Aside0.mk hgg60
           clear HP60 HS60 hgg60
           refine hK.out _ _ ⟨(blk_cell BK236.out 0).trans rfl, (blk_cell BK236.out 1).trans rfl, HS2_⟩ (fun hHeld => ?_)
           clear hK K
           refine norm_ (a' := ?_) ?_ ?_
           rotate_left
           ·show Act.put _ (some 59) _ = _
            simp only [Act.put, List.setIfInBounds_toArray, List.set_cons_zero, List.set_cons_succ, i64_w, i32_w]
            rfl
           refine zP (i := 11) (N := some 60) zB7_12 (any_of HT_.out (by kernel_rfl)) ?_
           refine last_ (i := 12) (N := none) zB7_13 rfl rfl (one_of HT_.out (by kernel_rfl)) (by decide) (fun K hK => ?_)
           refine skip_ (w1 := ?_) (by rfl) rfl ?_ ?_
           rotate_left
           ·go_simp
            rfl
           refine hK.out _ _ ?_
           clear hK K
           refine done_ (done_of HT_.out (by kernel_rfl)) ?_
           have n0_ : Aside0 (Kd.R (Kd.int .i64) 3 (w59.setCell ⟨go58, (x7_1 : Int).toNat, none⟩ (.slice Ao62 y260.length co62)) w.heap.size (fun _ => True) u237000 x237000_1) := ⟨by (with_reducible repeat (first | apply Kd.R_alloc | apply Kd.R_drewN | apply Kd.R_drew)); exact Kd.R_mono (Kd.R_far (p := ⟨go58, (x7_1 : Int).toNat, none⟩) (Kd.R_types HO_237000.out GG60_.out (by decide)) (fun _ hk => hk.2) (.slice Ao62 y260.length co62)) (fun _ hk => trivial)⟩
           have n1_ : Aside0 (Kd.S (Kd.slice 3 (Kd.int .i64)) 22 (w59.setCell ⟨go58, (x7_1 : Int).toNat, none⟩ (.slice Ao62 y260.length co62)) w.heap.size (fun k_ => some k_ ≠ (u237000 : Value).ownBlock) (.slice (some ⟨go58, 0, none⟩) x237001_1.length co19) y263) := ⟨by (with_reducible repeat (first | apply Kd.S_alloc | apply Kd.S_drewN | apply Kd.S_drew)); exact HQ60.out⟩
           have n2_ : Aside0 ((w59.setCell ⟨go58, (x7_1 : Int).toNat, none⟩ (.slice Ao62 y260.length co62)).heap[gb228]? = some (.cells #[.slice A0_0 l0_0.length c0_0, .slice A0_1 l0_1.length c0_1] 28 (0, 0))) := ⟨by (with_reducible repeat (first | refine blk_drewN ?_ _ | refine blk_drew ?_ | refine blk_alloc ?_ _)); refine blk_far ?_ HNB228_go58.out _; (with_reducible repeat (first | refine blk_drewN ?_ _ | refine blk_drew ?_ | refine blk_alloc ?_ _)); exact BK228.out⟩
           have n3_ : Aside0 ((w59.setCell ⟨go58, (x7_1 : Int).toNat, none⟩ (.slice Ao62 y260.length co62)).heap[gb229]? = some (.cells #[.slice none 0 0, .slice none 0 0] 28 (0, 0))) := ⟨by (with_reducible repeat (first | refine blk_drewN ?_ _ | refine blk_drew ?_ | refine blk_alloc ?_ _)); refine blk_far ?_ HNB229_go58.out _; (with_reducible repeat (first | refine blk_drewN ?_ _ | refine blk_drew ?_ | refine blk_alloc ?_ _)); exact BK229.out⟩
           have n4_ : Aside0 ((w59.setCell ⟨go58, (x7_1 : Int).toNat, none⟩ (.slice Ao62 y260.length co62)).heap[gb236]? = some (.cells #[u237000, .slice (some ⟨go58, 0, none⟩) x237001_1.length co19] 28 (0, 0))) := ⟨by (with_reducible repeat (first | refine blk_drewN ?_ _ | refine blk_drew ?_ | refine blk_alloc ?_ _)); refine blk_far ?_ HNB236_go58.out _; (with_reducible repeat (first | refine blk_drewN ?_ _ | refine blk_drew ?_ | refine blk_alloc ?_ _)); exact BK236.out⟩
           have n5_ : Aside0 (Below w.heap.size w (w59.setCell ⟨go58, (x7_1 : Int).toNat, none⟩ (.slice Ao62 y260.length co62))) := ⟨by repeat (first | (with_reducible first | exact HB.out | apply below_alloc | apply pw_below_drewN | apply below_drew1 | refine below_set ?_ GB58.out | refine below_set ?_ GE228.out | refine below_set ?_ GE229.out | refine below_set ?_ GE236.out) | exact HB.out)⟩
           (try clear HO_237000)
           (try clear HO_237001)
           (try clear BK228)
           (try clear BK229)
           (try clear BK236)
           (try clear HB)
           generalize (w59.setCell ⟨go58, (x7_1 : Int).toNat, none⟩ (.slice Ao62 y260.length co62)) = w63 at n0_ n1_ n2_ n3_ n4_ n5_ ⊢
           have HO_237000 := n0_
           have HO_237001 := n1_
           have BK228 := n2_
           have BK229 := n3_
           have BK236 := n4_
           have HB := n5_
           clear n0_ n1_ n2_ n3_ n4_ n5_
           have hcz64_0 : w63.cell? ⟨gb236, 0, none⟩ = some (u237000) := (blk_cell BK236.out 0).trans rfl
           have hcz64_1 : w63.cell? ⟨gb236, 1, none⟩ = some (.slice (some ⟨go58, 0, none⟩) x237001_1.length co19) := (blk_cell BK236.out 1).trans rfl
           have hfz64_0 := blk_frozen BK236.out 0
           have hfz64_1 := blk_frozen BK236.out 1
           obtain ⟨Ao65, co65, eo65⟩ := Kd.R_slice HO_237000.out
           subst eo65
           have hnb66 := NB229_228.out
           have hnc66 := NB228_229.out
           have hcz67_0 : w63.cell? ⟨gb229, 0, none⟩ = some (.slice none 0 0) := (blk_cell BK229.out 0).trans rfl
           have hcz67_1 : w63.cell? ⟨gb229, 1, none⟩ = some (.slice none 0 0) := (blk_cell BK229.out 1).trans rfl
           have hfz67_0 := blk_frozen BK229.out 0
           have hfz67_1 := blk_frozen BK229.out 1
           try go_wp2
           refine bodyPost_ret (results_ct rfl _ _ gb229 28 #[.slice Ao65 x237000_1.length co65, .slice (some ⟨go58, 0, none⟩) x237001_1.length co19] (0, 0) _ rfl (by (with_reducible repeat (first | refine blk_drewN ?_ _ | refine blk_drew ?_ | refine blk_alloc ?_ _)); refine blk_put (cs := #[.slice Ao65 x237000_1.length co65, .slice none 0 0]) ?_ 1 _ rfl; (with_reducible repeat (first | refine blk_drewN ?_ _ | refine blk_drew ?_ | refine blk_alloc ?_ _)); refine blk_put (cs := #[.slice none 0 0, .slice none 0 0]) ?_ 0 _ rfl; (with_reducible repeat (first | refine blk_drewN ?_ _ | refine blk_drew ?_ | refine blk_alloc ?_ _)); exact BK229.out) Try.underlying28 rfl (by kernel_rfl)) rfl ?_
           exact ⟨_, _, by first | rfl | (simp [errW_none, errW_some] <;> rfl) | (simp [*, errW_none, errW_some] <;> rfl), by (with_reducible repeat (first | apply Kd.R_alloc | apply Kd.R_drewN | apply Kd.R_drew)); exact Kd.R_mono (Kd.R_far (p := ⟨gb229, 1, none⟩) (Kd.R_far (p := ⟨gb229, 0, none⟩) (Kd.R_types HO_237000.out BK229.out (by decide)) (fun _ hk => hk.2) (.slice Ao65 x237000_1.length co65)) (fun _ hk => hk.2) (.slice (some ⟨go58, 0, none⟩) x237001_1.length co19)) (fun _ hk => trivial), by (with_reducible repeat (first | apply Kd.S_alloc | apply Kd.S_drewN | apply Kd.S_drew)); exact Kd.S_mono (Kd.S_far (p := ⟨gb229, 1, none⟩) (Kd.S_far (p := ⟨gb229, 0, none⟩) (Kd.S_types HO_237001.out BK229.out (by decide)) (fun _ hk => hk.2) (.slice Ao65 x237000_1.length co65)) (fun _ hk => hk.2) (.slice (some ⟨go58, 0, none⟩) x237001_1.length co19)) (fun _ hk => hk.1), by repeat (first | (with_reducible first | exact HB.out | apply below_alloc | apply pw_below_drewN | apply below_drew1 | refine below_set ?_ GE228.out | refine below_set ?_ GE229.out | refine below_set ?_ GE236.out) | exact HB.out)⟩
          ·rw [if_neg c52] at H
           exact absurd H (by simp)
         ·rw [if_neg c51] at H
          have c51b0 : (x8_2 == ((rd_L1 x237001_1 x7_1).length : Int)) = false := beq_eq_false_iff_ne.mpr c51
          have c51b1 : (x8_2 != ((rd_L1 x237001_1 x7_1).length : Int)) = true := bne_iff_ne.mpr c51
          by_cases c68 : 0 ≤ x8_2
          ·rw [if_pos c68] at H
           exact absurd H (by simp)
          ·rw [if_neg c68] at H
           exact absurd H (by simp)
       ·rw [if_neg c21] at H
        exact absurd H (by simp)
      ·rw [if_neg c20] at H
       exact absurd H (by simp)
   ·rw [if_neg c15] at H
    have c15b0 : decide (x7_1 < (x237001_1.length : Int)) = false := decide_eq_false c15
    clear c15
    obtain ⟨y237, hy237⟩ : ∃ y_ : List Int, y_ = (([x1_1] : List Int)) := ⟨_, rfl⟩
    replace H : (if x237001_1.length < 5864062014805 then ((some (x237001_1 ++ [y237] : List (List Int))).bind fun y240 => (some (x237000_1, y240, wrap64 ((y240.length : Int) - 1)))) else (none)) = some (r1, r2, r3) := by first | (rw [hy237]; with_reducible exact H) | (have H2_ := (Option.bind_some _ _).symm.trans H; rw [hy237]; with_reducible exact H2_) | (have H2_ := (Option.bind_some _ _).symm.trans H; with_reducible exact H2_) | with_reducible exact H | (rw [hy237]; exact H) | exact H
    have Ny237 := Aside0.mk hy237
    clear hy237
    by_cases c69 : x237001_1.length < 5864062014805
    ·rw [if_pos c69] at H
     have LMc69 := Aside0.mk c69
     clear c69
     obtain ⟨y240, hy240⟩ : ∃ y_ : List (List Int), y_ = (x237001_1 ++ [y237]) := ⟨_, rfl⟩
     replace H : (some (x237000_1, y240, wrap64 ((y240.length : Int) - 1))) = some (r1, r2, r3) := by first | (rw [hy240]; with_reducible exact H) | (have H2_ := (Option.bind_some _ _).symm.trans H; rw [hy240]; with_reducible exact H2_) | (have H2_ := (Option.bind_some _ _).symm.trans H; with_reducible exact H2_) | with_reducible exact H | (rw [hy240]; exact H) | exact H
     have Ny240 := Aside0.mk hy240
     clear hy240
     simp only [Option.some.injEq, Prod.mk.injEq] at H
     obtain ⟨rfl, rfl, rfl⟩ := H
     have hnb70 := NB236_228.out
     have hnc70 := NB228_236.out
     have hnb71 := NB236_229.out
     have hnc71 := NB229_236.out
     have hcz72_0 : wr.cell? ⟨gb236, 0, none⟩ = some (u237000) := (blk_cell BK236.out 0).trans rfl
     have hcz72_1 : wr.cell? ⟨gb236, 1, none⟩ = some (u237001) := (blk_cell BK236.out 1).trans rfl
     have hfz72_0 := blk_frozen BK236.out 0
     have hfz72_1 := blk_frozen BK236.out 1
     obtain ⟨Ao73, co73, eo73⟩ := Kd.S_slice HO_237001.out
     subst eo73
     try go_wp2_with (first | ((with_reducible refine gate_dst (N := 83) rfl ?_); refine Kd.R_lit (Kd.int .i64) _ 3 ?hg (N := 83) ?hd (xs := ([x1_1] : List Int)) (inner := [.int .i64 x1_1]) (ok := fun _ => True) (okp := fun _ => True) ?hr ?hp (fun _ hk => hk) trivial (Below.refl _ _) (Nat.le_refl _) (by simp) ?_; (case hd => rfl); (case hg => rfl); (case hr => first | (go_simp; done) | (go_simp; rfl)); (case hp => exact (Reps.one (show Kd.M (Kd.int .i64) _ _ _ x1_1 [.int .i64 x1_1] from rfl) (Reps.none _ _))); intro v238 w74 ho75 hb hg_ hnew_; clear hg_ hnew_; (first | rw [← Ny237.out] at ho75 | (simp only [Int.reduceToNat] at ho75; rw [← Ny237.out] at ho75)); have n0_ := Aside0.mk (Kd.R_elder' (by (with_reducible repeat (first | apply Kd.R_alloc | apply Kd.R_drewN | apply Kd.R_drew)); exact HO_237000.out) (Kd.R_base ho75) hb); have n1_ := Aside0.mk (Kd.S_elder' (by (with_reducible repeat (first | apply Kd.S_alloc | apply Kd.S_drewN | apply Kd.S_drew)); exact HO_237001.out) (Kd.R_base ho75) hb); have n2_ := Aside0.mk (Kd.R_lower (Kd.R_new' ho75 (Kd.R_lt (by (with_reducible repeat (first | apply Kd.R_alloc | apply Kd.R_drewN | apply Kd.R_drew)); exact HO_237000.out))) (below_size (by repeat (first | (with_reducible first | exact HB.out | apply below_alloc | apply pw_below_drewN | apply below_drew1 | refine below_set ?_ GE228.out | refine below_set ?_ GE229.out | refine below_set ?_ GE236.out) | exact HB.out)))); have n3_ := Aside0.mk (blk_below (g := gb228) (o := .cells #[.slice A0_0 l0_0.length c0_0, .slice A0_1 l0_1.length c0_1] 28 (0, 0)) (by (with_reducible repeat (first | refine blk_drewN ?_ _ | refine blk_drew ?_ | refine blk_alloc ?_ _)); exact BK228.out) hb); have n4_ := Aside0.mk (blk_below (g := gb229) (o := .cells #[.slice none 0 0, .slice none 0 0] 28 (0, 0)) (by (with_reducible repeat (first | refine blk_drewN ?_ _ | refine blk_drew ?_ | refine blk_alloc ?_ _)); exact BK229.out) hb); have n5_ := Aside0.mk (blk_below (g := gb236) (o := .cells #[u237000, .slice Ao73 x237001_1.length co73] 28 (0, 0)) (by (with_reducible repeat (first | refine blk_drewN ?_ _ | refine blk_drew ?_ | refine blk_alloc ?_ _)); exact BK236.out) hb); have n6_ := Aside0.mk (below_step (by repeat (first | (with_reducible first | exact HB.out | apply below_alloc | apply pw_below_drewN | apply below_drew1 | refine below_set ?_ GE228.out | refine below_set ?_ GE229.out | refine below_set ?_ GE236.out) | exact HB.out)) hb); clear HO_237000; clear HO_237001; clear BK228; clear BK229; clear BK236; clear HB; have HO_237000 := n0_; have HO_237001 := n1_; have HO239 := n2_; have BK228 := n3_; have BK229 := n4_; have BK236 := n5_; have HB := n6_; clear n0_ n1_ n2_ n3_ n4_ n5_ n6_; clear hb ho75; obtain ⟨Ao77, co77, eo77⟩ := Kd.R_slice HO239.out; subst eo77) | ((with_reducible refine gate_builtin (b := .append) (xs := #[.tmp 81, .tmp 84]) rfl ?_); at_builtin; refine Kd.S_append (Kd.slice 3 (Kd.int .i64)) (w0 := w) w.heap.size rfl (.tmp 81) (.tmp 84) 23 22 (.slice none 0 0) 24 rfl Try.underlying23 info22 rfl (by decide) (by omega) (.slice Ao73 x237001_1.length co73) x237001_1 y237 [.slice Ao77 y237.length co77] (fun k_ => some k_ ≠ (u237000 : Value).ownBlock) (fun k_ => some k_ = (.slice Ao77 y237.length co77 : Value).ownBlock) rfl rfl ?aP (fun k_ hk_ => ((Kd.R_mono (ok' := fun k_ => ((fun k_ => some k_ ≠ (u237000 : Value).ownBlock)) k_ ∧ some k_ ≠ (.slice Ao73 x237001_1.length co73 : Value).ownBlock) (Kd.R_apart' (HO239.out) (Kd.S_typed HO_237001.out) (by decide)) (fun k_ hk => ⟨hk.1.2, hk.2⟩))).1 k_ hk_.symm) ?aF ?aO ?aB ?aS ?aL ?_; (case aP => exact Kd.M_row (Kd.R_mono (Kd.R_tight rfl (Kd.R_mono (ok' := fun k_ => ((fun k_ => some k_ ≠ (u237000 : Value).ownBlock)) k_ ∧ some k_ ≠ (.slice Ao73 x237001_1.length co73 : Value).ownBlock) (Kd.R_apart' (HO239.out) (Kd.S_typed HO_237001.out) (by decide)) (fun k_ hk => ⟨hk.1.2, hk.2⟩))) (fun _ h_ => h_))); (case aB => exact (by repeat (first | (with_reducible first | exact HB.out | apply below_alloc | apply pw_below_drewN | apply below_drew1 | refine below_set ?_ GE228.out | refine below_set ?_ GE229.out | refine below_set ?_ GE236.out) | exact HB.out))); (case aF => exact (fun k_ hk => Kd.fresh' (Kd.R_lt (by (with_reducible repeat (first | apply Kd.R_alloc | apply Kd.R_drewN | apply Kd.R_drew)); exact HO_237000.out)) k_ hk)); (case aO => exact (by (with_reducible repeat (first | apply Kd.S_alloc | apply Kd.S_drewN | apply Kd.S_drew)); exact Kd.S_mono HO_237001.out (fun k_ hk => ⟨hk.1, fun e_ => hk.2 e_⟩))); (case aS => exact (below_size (by repeat (first | (with_reducible first | exact HB.out | apply below_alloc | apply pw_below_drewN | apply below_drew1 | refine below_set ?_ GE228.out | refine below_set ?_ GE229.out | refine below_set ?_ GE236.out) | exact HB.out)))); (case aL => have := LMc69.out; omega); intro v241 w76 ho hb hg hat; rw [← Ny240.out] at ho; have n0_ := Aside0.mk (Kd.R_over' (by (with_reducible repeat (first | apply Kd.R_alloc | apply Kd.R_drewN | apply Kd.R_drew)); exact HO_237000.out) (Kd.S_typed (by (with_reducible repeat (first | apply Kd.S_alloc | apply Kd.S_drewN | apply Kd.S_drew)); exact HO_237001.out)) (by decide) hg); have n1_ := Aside0.mk (blk_grown (g := gb228) (o := .cells #[.slice A0_0 l0_0.length c0_0, .slice A0_1 l0_1.length c0_1] 28 (0, 0)) (by (with_reducible repeat (first | refine blk_drewN ?_ _ | refine blk_drew ?_ | refine blk_alloc ?_ _)); exact BK228.out) hg (Kd.S_ne HO_237001.out BK228.out (by decide))); have n2_ := Aside0.mk (blk_grown (g := gb229) (o := .cells #[.slice none 0 0, .slice none 0 0] 28 (0, 0)) (by (with_reducible repeat (first | refine blk_drewN ?_ _ | refine blk_drew ?_ | refine blk_alloc ?_ _)); exact BK229.out) hg (Kd.S_ne HO_237001.out BK229.out (by decide))); have n3_ := Aside0.mk (blk_grown (g := gb236) (o := .cells #[u237000, .slice Ao73 x237001_1.length co73] 28 (0, 0)) (by (with_reducible repeat (first | refine blk_drewN ?_ _ | refine blk_drew ?_ | refine blk_alloc ?_ _)); exact BK236.out) hg (Kd.S_ne HO_237001.out BK236.out (by decide))); have n4_ := Aside0.mk (hb); have n5_ := Aside0.mk (ho); clear HO_237000; clear BK228; clear BK229; clear BK236; clear HB; clear HO_237001; clear HO239; have HO_237000 := n0_; have BK228 := n1_; have BK229 := n2_; have BK236 := n3_; have HB := n4_; have HO242 := n5_; clear n0_ n1_ n2_ n3_ n4_ n5_; clear ho hb hg hat; obtain ⟨Ao78, co78, eo78⟩ := Kd.S_slice HO242.out; subst eo78; have hcz79_0 : w76.cell? ⟨gb236, 0, none⟩ = some (u237000) := (blk_cell BK236.out 0).trans rfl; have hcz79_1 : w76.cell? ⟨gb236, 1, none⟩ = some (.slice Ao73 x237001_1.length co73) := (blk_cell BK236.out 1).trans rfl; have hfz79_0 := blk_frozen BK236.out 0; have hfz79_1 := blk_frozen BK236.out 1))
     have n0_ : Aside0 (Kd.R (Kd.int .i64) 3 (w76.setCell ⟨gb236, 1, none⟩ (.slice Ao78 y240.length co78)) w.heap.size (fun _ => True) u237000 x237000_1) := ⟨by (with_reducible repeat (first | apply Kd.R_alloc | apply Kd.R_drewN | apply Kd.R_drew)); exact Kd.R_mono (Kd.R_far (p := ⟨gb236, 1, none⟩) (Kd.R_types HO_237000.out BK236.out (by decide)) (fun _ hk => hk.2) (.slice Ao78 y240.length co78)) (fun _ hk => trivial)⟩
     have n1_ : Aside0 (Kd.S (Kd.slice 3 (Kd.int .i64)) 22 (w76.setCell ⟨gb236, 1, none⟩ (.slice Ao78 y240.length co78)) w.heap.size (fun k_ => some k_ ≠ (u237000 : Value).ownBlock) (.slice Ao78 y240.length co78) y240) := ⟨by (with_reducible repeat (first | apply Kd.S_alloc | apply Kd.S_drewN | apply Kd.S_drew)); exact Kd.S_mono (Kd.S_far (p := ⟨gb236, 1, none⟩) (Kd.S_types HO242.out BK236.out (by decide)) (fun _ hk => hk.2) (.slice Ao78 y240.length co78)) (fun _ hk => hk.1)⟩
     have n2_ : Aside0 ((w76.setCell ⟨gb236, 1, none⟩ (.slice Ao78 y240.length co78)).heap[gb228]? = some (.cells #[.slice A0_0 l0_0.length c0_0, .slice A0_1 l0_1.length c0_1] 28 (0, 0))) := ⟨by (with_reducible repeat (first | refine blk_drewN ?_ _ | refine blk_drew ?_ | refine blk_alloc ?_ _)); refine blk_far ?_ NB228_236.out _; (with_reducible repeat (first | refine blk_drewN ?_ _ | refine blk_drew ?_ | refine blk_alloc ?_ _)); exact BK228.out⟩
     have n3_ : Aside0 ((w76.setCell ⟨gb236, 1, none⟩ (.slice Ao78 y240.length co78)).heap[gb229]? = some (.cells #[.slice none 0 0, .slice none 0 0] 28 (0, 0))) := ⟨by (with_reducible repeat (first | refine blk_drewN ?_ _ | refine blk_drew ?_ | refine blk_alloc ?_ _)); refine blk_far ?_ NB229_236.out _; (with_reducible repeat (first | refine blk_drewN ?_ _ | refine blk_drew ?_ | refine blk_alloc ?_ _)); exact BK229.out⟩
     have n4_ : Aside0 ((w76.setCell ⟨gb236, 1, none⟩ (.slice Ao78 y240.length co78)).heap[gb236]? = some (.cells #[u237000, .slice Ao78 y240.length co78] 28 (0, 0))) := ⟨by (with_reducible repeat (first | refine blk_drewN ?_ _ | refine blk_drew ?_ | refine blk_alloc ?_ _)); refine blk_put (cs := #[u237000, .slice Ao73 x237001_1.length co73]) ?_ 1 _ rfl; (with_reducible repeat (first | refine blk_drewN ?_ _ | refine blk_drew ?_ | refine blk_alloc ?_ _)); exact BK236.out⟩
     have n5_ : Aside0 (Below w.heap.size w (w76.setCell ⟨gb236, 1, none⟩ (.slice Ao78 y240.length co78))) := ⟨by repeat (first | (with_reducible first | exact HB.out | apply below_alloc | apply pw_below_drewN | apply below_drew1 | refine below_set ?_ GE228.out | refine below_set ?_ GE229.out | refine below_set ?_ GE236.out) | exact HB.out)⟩
     (try clear HO_237000)
     (try clear HO242)
     (try clear BK228)
     (try clear BK229)
     (try clear BK236)
     (try clear HB)
     generalize (w76.setCell ⟨gb236, 1, none⟩ (.slice Ao78 y240.length co78)) = w80 at n0_ n1_ n2_ n3_ n4_ n5_ ⊢
     have HO_237000 := n0_
     have HO242 := n1_
     have BK228 := n2_
     have BK229 := n3_
     have BK236 := n4_
     have HB := n5_
     clear n0_ n1_ n2_ n3_ n4_ n5_
     have n0_ := Aside0.mk (Kd.R_drew HO_237000.out)
     have n1_ := Aside0.mk (Kd.S_drew HO242.out)
     have n2_ := Aside0.mk (blk_drew BK228.out)
     have n3_ := Aside0.mk (blk_drew BK229.out)
     have n4_ := Aside0.mk (blk_drew BK236.out)
     have n5_ := Aside0.mk (below_drew1 HB.out)
     clear HO_237000
     clear HO242
     clear BK228
     clear BK229
     clear BK236
     clear HB
     have HO_237000 := n0_
     have HO242 := n1_
     have BK228 := n2_
     have BK229 := n3_
     have BK236 := n4_
     have HB := n5_
     clear n0_ n1_ n2_ n3_ n4_ n5_
     obtain ⟨Ao82, co82, eo82⟩ := Kd.R_slice HO_237000.out
     (first | subst eo82 | (injection eo82 with f1_ f2_ f3_; have f4_ := f1_.symm; have f5_ := f3_.symm; clear f1_ f2_ f3_; subst f4_; subst f5_))
     refine start_ (n := 7) (S := fun w' => w'.cell? ⟨gb236, 0, none⟩ = some (.slice Ao82 x237000_1.length co82) ∧ w'.cell? ⟨gb236, 1, none⟩ = some (.slice Ao78 y240.length co78)) (ds := []) #[false, false, false, false, false, false, false] (by kernel_rfl) rfl rfl ⟨(blk_cell BK236.out 0).trans rfl, (blk_cell BK236.out 1).trans rfl⟩ (fun hHeld => ?_)
     generalize w80.drew = w81 at HO_237000 HO242 BK228 BK229 BK236 HB hHeld ⊢
     refine pure_ (i := 1) (N := some 88) (v := ?_) (a' := ?_) #[false, true, false, false, false, false, false] rfl rfl (by kernel_rfl) (fun _ _ _ h => h) (Or.inl ⟨by rfl, ?_⟩) ?_ ?_
     rotate_left
     ·intro w'
      go_simp
      with_reducible rfl
     rotate_left
     ·simp only [Act.put, List.setIfInBounds_toArray, List.set_cons_zero, List.set_cons_succ, i64_w, i32_w]
      rfl
     refine take_ (i := 0) (N := some 87) (v := ?_) (a' := ?_) #[true, true, false, false, false, false, false] rfl rfl (by kernel_rfl) (fun _ _ _ h => h) (Or.inl ⟨by rfl, ?_⟩) hHeld ?_ ?_
     rotate_left
     ·rintro w' ⟨s0, s1⟩
      go_simp
      with_reducible rfl
     rotate_left
     ·simp only [Act.put, List.setIfInBounds_toArray, List.set_cons_zero, List.set_cons_succ, i64_w, i32_w]
      rfl
     refine take_ (i := 2) (N := some 89) (v := ?_) (a' := ?_) #[true, true, true, false, false, false, false] rfl rfl (by kernel_rfl) (fun _ _ _ h => h) (Or.inl ⟨by rfl, ?_⟩) hHeld ?_ ?_
     rotate_left
     ·rintro w' ⟨s0, s1⟩
      go_simp
      with_reducible rfl
     rotate_left
     ·simp only [Act.put, List.setIfInBounds_toArray, List.set_cons_zero, List.set_cons_succ, i64_w, i32_w]
      rfl
     refine pure_ (i := 3) (N := some 90) (v := ?_) (a' := ?_) #[true, true, true, true, false, false, false] rfl rfl (by kernel_rfl) (fun _ _ _ h => h) (Or.inl ⟨by rfl, ?_⟩) ?_ ?_
     rotate_left
     ·intro w'
      go_simp
      with_reducible rfl
     rotate_left
     ·simp only [Act.put, List.setIfInBounds_toArray, List.set_cons_zero, List.set_cons_succ, i64_w, i32_w]
      rfl
     refine pure_ (i := 4) (N := some 91) (v := ?_) (a' := ?_) #[true, true, true, true, true, false, false] rfl rfl (by kernel_rfl) (fun _ _ _ h => h) (Or.inl ⟨by rfl, ?_⟩) ?_ ?_
     rotate_left
     ·intro w'
      go_simp
      with_reducible rfl
     rotate_left
     ·simp only [Act.put, List.setIfInBounds_toArray, List.set_cons_zero, List.set_cons_succ, i64_w, i32_w]
      rfl
     refine one_ (i := 5) (N := none) #[true, true, true, true, true, true, false] rfl rfl (by kernel_rfl) (by decide) (fun K hK => ?_)
     have hs83 : w81.cell? ⟨gb229, 0, none⟩ = some (.slice none 0 0) := (blk_cell BK229.out 0).trans rfl
     have hfs83 := blk_frozen BK229.out 0
     have hns83_0 := NB228_229.out
     have hns83_2 := NB236_229.out
     have hms83_0 := NB229_228.out
     have hms83_2 := NB229_236.out
     have hs84 : w81.cell? ⟨gb229, 1, none⟩ = some (.slice none 0 0) := (blk_cell BK229.out 1).trans rfl
     have hfs84 := blk_frozen BK229.out 1
     have hns84_0 := NB228_229.out
     have hns84_2 := NB236_229.out
     have hms84_0 := NB229_228.out
     have hms84_2 := NB229_236.out
     refine skip_ (w1 := ?_) (by rfl) rfl ?_ ?_
     rotate_left
     ·go_simp
      rfl
     refine hK.out _ _ ⟨((cell_far (p := ⟨gb229, _, none⟩) NB236_229.out _).trans (((cell_far (p := ⟨gb229, _, none⟩) NB236_229.out _).trans (hHeld.1)))), ((cell_far (p := ⟨gb229, _, none⟩) NB236_229.out _).trans (((cell_far (p := ⟨gb229, _, none⟩) NB236_229.out _).trans (hHeld.2))))⟩ (fun hHeld => ?_)
     clear hK K
     refine pure_ (i := 6) (N := some 5) (v := ?_) (a' := ?_) #[true, true, true, true, true, true, true] rfl rfl (by kernel_rfl) (fun _ _ _ h => h) (Or.inl ⟨by rfl, ?_⟩) ?_ ?_
     rotate_left
     ·intro w'
      go_simp
      with_reducible rfl
     rotate_left
     ·simp only [Act.put, List.setIfInBounds_toArray, List.set_cons_zero, List.set_cons_succ, i64_w, i32_w]
      rfl
     refine done_ (by kernel_rfl) ?_
     try go_wp2
     refine bodyPost_ret (results_ct rfl _ _ gb229 28 #[.slice Ao82 x237000_1.length co82, .slice Ao78 y240.length co78] (0, 0) _ rfl (by (with_reducible repeat (first | refine blk_drewN ?_ _ | refine blk_drew ?_ | refine blk_alloc ?_ _)); refine blk_put (cs := #[.slice Ao82 x237000_1.length co82, .slice none 0 0]) ?_ 1 _ rfl; (with_reducible repeat (first | refine blk_drewN ?_ _ | refine blk_drew ?_ | refine blk_alloc ?_ _)); refine blk_put (cs := #[.slice none 0 0, .slice none 0 0]) ?_ 0 _ rfl; (with_reducible repeat (first | refine blk_drewN ?_ _ | refine blk_drew ?_ | refine blk_alloc ?_ _)); exact BK229.out) Try.underlying28 rfl (by kernel_rfl)) rfl ?_
     exact ⟨_, _, by first | rfl | (simp [errW_none, errW_some] <;> rfl) | (simp [*, errW_none, errW_some] <;> rfl), by (with_reducible repeat (first | apply Kd.R_alloc | apply Kd.R_drewN | apply Kd.R_drew)); exact Kd.R_mono (Kd.R_far (p := ⟨gb229, 1, none⟩) (Kd.R_far (p := ⟨gb229, 0, none⟩) (Kd.R_types HO_237000.out BK229.out (by decide)) (fun _ hk => hk.2) (.slice Ao82 x237000_1.length co82)) (fun _ hk => hk.2) (.slice Ao78 y240.length co78)) (fun _ hk => trivial), by (with_reducible repeat (first | apply Kd.S_alloc | apply Kd.S_drewN | apply Kd.S_drew)); exact Kd.S_mono (Kd.S_far (p := ⟨gb229, 1, none⟩) (Kd.S_far (p := ⟨gb229, 0, none⟩) (Kd.S_types HO242.out BK229.out (by decide)) (fun _ hk => hk.2) (.slice Ao82 x237000_1.length co82)) (fun _ hk => hk.2) (.slice Ao78 y240.length co78)) (fun _ hk => hk.1), by repeat (first | (with_reducible first | exact HB.out | apply below_alloc | apply pw_below_drewN | apply below_drew1 | refine below_set ?_ GE228.out | refine below_set ?_ GE229.out | refine below_set ?_ GE236.out) | exact HB.out)⟩
    ·rw [if_neg c69] at H
     exact absurd H (by simp)

end Go.Proofs.Ytljjjdgnpnnmoaa.F
