/- For each Go function named below: the plain Lean function that it computes, and that its call returns just that; conditions: those that each theorem names. -/
import Derived.Test.YtljjjdgnpnnmoaaF0
import Derived.Test.YtljjjdgnpnnmoaaF4
import Derived.Test.YtljjjdgnpnnmoaaF6
namespace Go.Proofs.Ytljjjdgnpnnmoaa.F
open Go.RowKit Go.Proofs.YtljjjdgnpnnmoaaW.PrintWords Go.Proofs.YtljjjdgnpnnmoaaW.PrintLast Go.Proofs.YtljjjdgnpnnmoaaW.PrintMore
attribute [local go_sem] max2_int min2_int max_two min_two max_three min_three max_four min_four   -- for this text's walks alone
set_option linter.unusedVariables false
set_option linter.unusedSimpArgs false
abbrev zB7_0 : Array Bool := #[false, false, false, false, false, false, false, false, false, false, false, false, false]
abbrev zB7_1 : Array Bool := #[true, false, false, false, false, false, false, false, false, false, false, false, false]
abbrev zB7_2 : Array Bool := #[true, false, true, false, false, false, false, false, false, false, false, false, false]
abbrev zB7_3 : Array Bool := #[true, false, true, true, false, false, false, false, false, false, false, false, false]
abbrev zB7_4 : Array Bool := #[true, false, true, true, false, true, false, false, false, false, false, false, false]
abbrev zB7_5 : Array Bool := #[true, false, true, true, false, true, false, false, true, false, false, false, false]
abbrev zB7_6 : Array Bool := #[true, true, true, true, false, true, false, false, true, false, false, false, false]
abbrev zB7_7 : Array Bool := #[true, true, true, true, true, true, false, false, true, false, false, false, false]
abbrev zB7_8 : Array Bool := #[true, true, true, true, true, true, true, false, true, false, false, false, false]
abbrev zB7_9 : Array Bool := #[true, true, true, true, true, true, true, true, true, false, false, false, false]
abbrev zB7_10 : Array Bool := #[true, true, true, true, true, true, true, true, true, true, false, false, false]
abbrev zB7_11 : Array Bool := #[true, true, true, true, true, true, true, true, true, true, true, false, false]
abbrev zB7_12 : Array Bool := #[true, true, true, true, true, true, true, true, true, true, true, true, false]
abbrev zB7_13 : Array Bool := #[true, true, true, true, true, true, true, true, true, true, true, true, true]

mutual
def spec_l17Column.l0 : Nat → Int → Int → List Int → List (List Int) → Option (List Int × (List (List Int)))
 | 0, _, _, _, _ => none
 | k + 1, x1, x6, x234000, x234001 => spec_l17Column.l1 k x1 x6 0 x234000 x234001
def spec_l17Column.j2 : Nat → Int → Int → Int → List Int → List (List Int) → Option (List Int × (List (List Int)))
 | 0, _, _, _, _, _ => none
 | k + 1, x1, x6, x7, x234000, x234001 => (spec_l5Entry.f k x234000 x234001 x7 x6).bind fun t236 => (if t236 = 0 then (if x7 = (x234001.length : Int) then (if x234001.length < 5864062014805 then ((some (x234001 ++ [(([] : List Int))] : List (List Int))).bind fun y240 => (if 0 ≤ x7 then (if x7 < (y240.length : Int) then (if (rd_L1 y240 x7).length < 17592186044416 then (some (x234000, (y240.set (x7 : Int).toNat ((rd_L1 y240 x7) ++ [x1])))) else (none)) else (none)) else (none))) else (none)) else (if 0 ≤ x7 then (if x7 < (x234001.length : Int) then (if (rd_L1 x234001 x7).length < 17592186044416 then (some (x234000, (x234001.set (x7 : Int).toNat ((rd_L1 x234001 x7) ++ [x1])))) else (none)) else (none)) else (none))) else (if 0 ≤ x7 then (if x7 < (x234001.length : Int) then (if 0 ≤ x6 then (if x6 < ((rd_L1 x234001 x7).length : Int) then (spec_l17Column.l0 k t236 (wrap64 (x6 + 1)) x234000 (x234001.set (x7 : Int).toNat ((rd_L1 x234001 x7).set (x6 : Int).toNat x1))) else (none)) else (none)) else (none)) else (none)))
def spec_l17Column.l1 : Nat → Int → Int → Int → List Int → List (List Int) → Option (List Int × (List (List Int)))
 | 0, _, _, _, _, _ => none
 | k + 1, x1, x6, x7, x234000, x234001 => (spec_l5Entry.f k x234000 x234001 x7 x6).bind fun t234 => (if t234 > 0 then ((spec_l5Entry.f k x234000 x234001 x7 x6).bind fun t235 => (if t235 < x1 then (spec_l17Column.l1 k x1 x6 (wrap64 (x7 + 1)) x234000 x234001) else (spec_l17Column.j2 k x1 x6 x7 x234000 x234001))) else (spec_l17Column.j2 k x1 x6 x7 x234000 x234001))
end
def spec_l17Column.f (k : Nat) (l0_0 : List Int) (l0_1 : List (List Int)) (a1 : Int) : Option (List Int × (List (List Int))) := (spec_l5Copy.f k l0_0 l0_1).bind fun bt227 => (spec_l17Column.l0 k a1 0 bt227.1 bt227.2)
theorem spec_l17Column.mono_l : ∀ k, (∀ y0 y1 y2 y3, LeO (spec_l17Column.l0 k y0 y1 y2 y3) (spec_l17Column.l0 (k + 1) y0 y1 y2 y3)) ∧ (∀ y0 y1 y2 y3 y4, LeO (spec_l17Column.j2 k y0 y1 y2 y3 y4) (spec_l17Column.j2 (k + 1) y0 y1 y2 y3 y4)) ∧ (∀ y0 y1 y2 y3 y4, LeO (spec_l17Column.l1 k y0 y1 y2 y3 y4) (spec_l17Column.l1 (k + 1) y0 y1 y2 y3 y4))
 | 0 => ⟨fun _ _ _ _ r h => by simp [spec_l17Column.l0] at h, fun _ _ _ _ _ r h => by simp [spec_l17Column.j2] at h, fun _ _ _ _ _ r h => by simp [spec_l17Column.l1] at h⟩
 | k + 1 => by
  obtain ⟨ih0, ih1, ih2⟩ := spec_l17Column.mono_l k
  refine ⟨?_, ?_, ?_⟩
  ·intro y0 y1 y2 y3
   unfold spec_l17Column.l0
   repeat' first
   | (with_reducible exact ih0 _ _ _ _)
   | (with_reducible exact ih1 _ _ _ _ _)
   | (with_reducible exact ih2 _ _ _ _ _)
   | (with_reducible exact spec_l5Copy.mono _ _ _)
   | (with_reducible exact spec_l5Entry.mono _ _ _ _ _)
   | (with_reducible exact LeO.refl _)
   | (with_reducible exact LeO.none _)
   | (with_reducible refine LeO.ite ?_ ?_)
   | (with_reducible refine LeO.bind ?_ (fun _ => ?_))
   | exact ih0 _ _ _ _
   | exact ih1 _ _ _ _ _
   | exact ih2 _ _ _ _ _
   | exact spec_l5Copy.mono _ _ _
   | exact spec_l5Entry.mono _ _ _ _ _
   | exact LeO.none _
   | refine LeO.ite ?_ ?_
   | refine LeO.bind ?_ (fun _ => ?_)
  ·intro y0 y1 y2 y3 y4
   unfold spec_l17Column.j2
   repeat' first
   | (with_reducible exact ih0 _ _ _ _)
   | (with_reducible exact ih1 _ _ _ _ _)
   | (with_reducible exact ih2 _ _ _ _ _)
   | (with_reducible exact spec_l5Copy.mono _ _ _)
   | (with_reducible exact spec_l5Entry.mono _ _ _ _ _)
   | (with_reducible exact LeO.refl _)
   | (with_reducible exact LeO.none _)
   | (with_reducible refine LeO.ite ?_ ?_)
   | (with_reducible refine LeO.bind ?_ (fun _ => ?_))
   | exact ih0 _ _ _ _
   | exact ih1 _ _ _ _ _
   | exact ih2 _ _ _ _ _
   | exact spec_l5Copy.mono _ _ _
   | exact spec_l5Entry.mono _ _ _ _ _
   | exact LeO.none _
   | refine LeO.ite ?_ ?_
   | refine LeO.bind ?_ (fun _ => ?_)
  ·intro y0 y1 y2 y3 y4
   unfold spec_l17Column.l1
   repeat' first
   | (with_reducible exact ih0 _ _ _ _)
   | (with_reducible exact ih1 _ _ _ _ _)
   | (with_reducible exact ih2 _ _ _ _ _)
   | (with_reducible exact spec_l5Copy.mono _ _ _)
   | (with_reducible exact spec_l5Entry.mono _ _ _ _ _)
   | (with_reducible exact LeO.refl _)
   | (with_reducible exact LeO.none _)
   | (with_reducible refine LeO.ite ?_ ?_)
   | (with_reducible refine LeO.bind ?_ (fun _ => ?_))
   | exact ih0 _ _ _ _
   | exact ih1 _ _ _ _ _
   | exact ih2 _ _ _ _ _
   | exact spec_l5Copy.mono _ _ _
   | exact spec_l5Entry.mono _ _ _ _ _
   | exact LeO.none _
   | refine LeO.ite ?_ ?_
   | refine LeO.bind ?_ (fun _ => ?_)
theorem spec_l17Column.mono : ∀ a0 a1 a2 k, LeO (spec_l17Column.f k a0 a1 a2) (spec_l17Column.f (k + 1) a0 a1 a2) := by
 intro a0 a1 a2 k
 obtain ⟨ih0, ih1, ih2⟩ := spec_l17Column.mono_l k
 unfold spec_l17Column.f
 repeat' first
   | (with_reducible exact ih0 _ _ _ _)
   | (with_reducible exact ih1 _ _ _ _ _)
   | (with_reducible exact ih2 _ _ _ _ _)
   | (with_reducible exact spec_l5Copy.mono _ _ _)
   | (with_reducible exact spec_l5Entry.mono _ _ _ _ _)
   | (with_reducible exact LeO.refl _)
   | (with_reducible exact LeO.none _)
   | (with_reducible refine LeO.ite ?_ ?_)
   | (with_reducible refine LeO.bind ?_ (fun _ => ?_))
   | exact ih0 _ _ _ _
   | exact ih1 _ _ _ _ _
   | exact ih2 _ _ _ _ _
   | exact spec_l5Copy.mono _ _ _
   | exact spec_l5Entry.mono _ _ _ _ _
   | exact LeO.none _
   | refine LeO.ite ?_ ?_
   | refine LeO.bind ?_ (fun _ => ?_)
def spec_l17Column.T11 : Bool × List (List Nat × List Nat) := (true, [([], []), ([0], [0]), ([], []), ([], []), ([3], [3]), ([], []), ([4, 5], [4, 5]), ([6], [6]), ([], []), ([8], [8]), ([7, 9], [7, 9]), ([1, 2, 0, 1, 2, 3, 4, 5, 6, 7, 8, 9, 10], [1, 2]), ([11, 10, 10, 0, 1, 2, 3, 4, 5, 6, 7, 8, 9, 10], [10, 11])])
def spec_l17Column.B11 : List Nat := [0, 1, 0, 0, 8, 0, 56, 120, 0, 256, 1016, 2047, 4095]
theorem spec_l17Column.tab11 : rtab .any (opsOf Try.f62 11) = spec_l17Column.T11 := by kernel_rfl
theorem spec_l17Column.bits11 : waitsOk spec_l17Column.T11.2 spec_l17Column.B11 = true := by kernel_rfl
set_option maxHeartbeats 8000000 in
set_option maxRecDepth 100000 in
theorem spec_l17Column.calls (k : Nat) (A0_0 : Option Addr) (c0_0 : Nat) (l0_0 : List Int) (A0_1 : Option Addr) (c0_1 : Nat) (l0_1 : List (List Int)) (a1 : Int) (r1 : List Int) (r2 : List (List Int)) (w : World) (hr0_0 : Kd.C (Kd.int .i64) w A0_0 l0_0.length l0_0) (hc0_0 : l0_0.length ≤ c0_0) (hr0_1 : Kd.C (Kd.slice 3 (Kd.int .i64)) w A0_1 l0_1.length l0_1) (hc0_1 : l0_1.length ≤ c0_1) (h : spec_l17Column.f k l0_0 l0_1 a1 = some (r1, r2)) :
  Calls Try.prog 62 #[.agg #[.slice A0_0 l0_0.length c0_0, .slice A0_1 l0_1.length c0_1], .int .i64 a1] w fun e w' => ∃ v0_ v1_ : Value, e = .returned (.agg #[v0_, v1_]) ∧ Kd.R (Kd.int .i64) 3 w' w.heap.size (fun _ => True) v0_ r1 ∧ Kd.S (Kd.slice 3 (Kd.int .i64)) 22 w' w.heap.size (fun k_ => some k_ ≠ (v0_ : Value).ownBlock) v1_ r2 ∧ Below w.heap.size w w' := by
 have hu28 := Try.underlying28
 have HR0_0 := Aside0.mk hr0_0
 have HC0_0 := Aside0.mk hc0_0
 clear hr0_0 hc0_0
 have HR0_1 := Aside0.mk hr0_1
 have HC0_1 := Aside0.mk hc0_1
 clear hr0_1 hc0_1
 have HB := Aside0.mk (Below.refl w.heap.size w)
 have H : ((spec_l5Copy.f k l0_0 l0_1).bind fun bt227 => (spec_l17Column.l0 k a1 0 bt227.1 bt227.2)) = some (r1, r2) := h
 clear h
 replace H := Option.bind_eq_some_iff.mp H
 obtain ⟨⟨t227, t230⟩, A30, H⟩ := H
 replace H : (spec_l17Column.l0 k a1 0 t227 t230) = some (r1, r2) := H
 have A3 := Aside0.mk A30
 clear A30
 have H' := Aside0.mk H
 clear H
 go_enter Try.func62, Try.ntmps62
 go_wp2_with (first | ((with_reducible refine gate_dst (N := 2) rfl ?_); refine zX (N := 2) (cs := #[.slice A0_0 l0_0.length c0_0, .slice A0_1 l0_1.length c0_1]) (t := 28) ?_; intro gb225 hg w4 hbox hb; have n0_ := Aside0.mk (below_step (by repeat (first | (with_reducible first | exact HB.out | apply below_alloc | apply pw_below_drewN | apply below_drew1) | exact HB.out)) hb); have n1_ := Aside0.mk (hbox); have n2_ := Aside0.mk ((by rw [hg]; exact (below_size (by repeat (first | (with_reducible first | exact HB.out | apply below_alloc | apply pw_below_drewN | apply below_drew1) | exact HB.out))) : w.heap.size ≤ gb225)); have n3_ := Aside0.mk ((by rw [hg]; exact (below_size (by repeat (first | (with_reducible first | exact HB.out | apply below_alloc | apply pw_below_drewN | apply below_drew1) | exact HB.out))) : w.heap.size ≤ gb225)); clear HB; have HB := n0_; have BK225 := n1_; have GW225 := n2_; have GE225 := n3_; clear n0_ n1_ n2_ n3_; clear hb hbox hg) | ((with_reducible refine gate_dst (N := 4) rfl ?_); refine zX (N := 4) (cs := #[.slice none 0 0, .slice none 0 0]) (t := 28) ?_; intro gb226 hg w5 hbox hb; have n0_ := Aside0.mk (blk_below (g := gb225) (o := .cells #[.slice A0_0 l0_0.length c0_0, .slice A0_1 l0_1.length c0_1] 28 (0, 0)) (by (with_reducible repeat (first | refine blk_drewN ?_ _ | refine blk_drew ?_ | refine blk_alloc ?_ _)); exact BK225.out) hb); have n1_ := Aside0.mk (below_step (by repeat (first | (with_reducible first | exact HB.out | apply below_alloc | apply pw_below_drewN | apply below_drew1 | refine below_set ?_ GE225.out) | exact HB.out)) hb); have n2_ := Aside0.mk (hbox); have n3_ := Aside0.mk ((by rw [hg]; exact (below_size (by repeat (first | (with_reducible first | exact HB.out | apply below_alloc | apply pw_below_drewN | apply below_drew1 | refine below_set ?_ GE225.out) | exact HB.out))) : w.heap.size ≤ gb226)); have n4_ := Aside0.mk ((by rw [hg]; exact (below_size (by repeat (first | (with_reducible first | exact HB.out | apply below_alloc | apply pw_below_drewN | apply below_drew1 | refine below_set ?_ GE225.out) | exact HB.out))) : w.heap.size ≤ gb226)); have n5_ := Aside0.mk ((by rw [hg]; exact Nat.ne_of_lt (blk_lt (g := gb225) (o := .cells #[.slice A0_0 l0_0.length c0_0, .slice A0_1 l0_1.length c0_1] 28 (0, 0)) (by (with_reducible repeat (first | refine blk_drewN ?_ _ | refine blk_drew ?_ | refine blk_alloc ?_ _)); exact BK225.out)) : gb225 ≠ gb226)); have n6_ := Aside0.mk ((by rw [hg]; exact Nat.ne_of_gt (blk_lt (g := gb225) (o := .cells #[.slice A0_0 l0_0.length c0_0, .slice A0_1 l0_1.length c0_1] 28 (0, 0)) (by (with_reducible repeat (first | refine blk_drewN ?_ _ | refine blk_drew ?_ | refine blk_alloc ?_ _)); exact BK225.out)) : gb226 ≠ gb225)); clear BK225; clear HB; have BK225 := n0_; have HB := n1_; have BK226 := n2_; have GW226 := n3_; have GE226 := n4_; have NB225_226 := n5_; have NB226_225 := n6_; clear n0_ n1_ n2_ n3_ n4_ n5_ n6_; clear hb hbox hg; have hnb6 := NB225_226.out; have hnc6 := NB226_225.out; have hcz7_0 : w5.cell? ⟨gb225, 0, none⟩ = some (.slice A0_0 l0_0.length c0_0) := (blk_cell BK225.out 0).trans rfl; have hcz7_1 : w5.cell? ⟨gb225, 1, none⟩ = some (.slice A0_1 l0_1.length c0_1) := (blk_cell BK225.out 1).trans rfl; have hfz7_0 := blk_frozen BK225.out 0; have hfz7_1 := blk_frozen BK225.out 1) | ((with_reducible refine gate_callee (f := 86) rfl ?_); refine zG (some 10) Try.func86 #[.agg #[.slice A0_0 l0_0.length c0_0, .slice A0_1 l0_1.length c0_1]] ?_; (with_reducible refine (spec_l5Copy.calls k _ _ l0_0 _ _ l0_1 t227 t230 _ ?side1 ?side2 ?side3 ?side4 A3.out).mono ?_); (case side1 => repeat (first | exact (Kd.C_below HR0_0.out HB.out) | (with_reducible refine Kd.C_alloc ?_ _) | (with_reducible refine Kd.C_drewN ?_ _) | (with_reducible refine Kd.C_drew ?_))); (case side2 => exact HC0_0.out); (case side3 => repeat (first | exact (Kd.C_below HR0_1.out HB.out) | (with_reducible refine Kd.C_alloc ?_ _) | (with_reducible refine Kd.C_drewN ?_ _) | (with_reducible refine Kd.C_drew ?_))); (case side4 => exact HC0_1.out); rintro e w8 ⟨v228, v231, rfl, ho0, ho1, hb⟩; refine ⟨_, rfl, ?_⟩; have n0_ := Aside0.mk (Kd.R_lower ho0 (below_size (by repeat (first | (with_reducible first | exact HB.out | apply below_alloc | apply pw_below_drewN | apply below_drew1 | refine below_set ?_ GE225.out | refine below_set ?_ GE226.out) | exact HB.out)))); have n1_ := Aside0.mk (Kd.S_lower ho1 (below_size (by repeat (first | (with_reducible first | exact HB.out | apply below_alloc | apply pw_below_drewN | apply below_drew1 | refine below_set ?_ GE225.out | refine below_set ?_ GE226.out) | exact HB.out)))); have n2_ := Aside0.mk (blk_below (g := gb225) (o := .cells #[.slice A0_0 l0_0.length c0_0, .slice A0_1 l0_1.length c0_1] 28 (0, 0)) (by (with_reducible repeat (first | refine blk_drewN ?_ _ | refine blk_drew ?_ | refine blk_alloc ?_ _)); exact BK225.out) hb); have n3_ := Aside0.mk (blk_below (g := gb226) (o := .cells #[.slice none 0 0, .slice none 0 0] 28 (0, 0)) (by (with_reducible repeat (first | refine blk_drewN ?_ _ | refine blk_drew ?_ | refine blk_alloc ?_ _)); exact BK226.out) hb); have n4_ := Aside0.mk (below_step (by repeat (first | (with_reducible first | exact HB.out | apply below_alloc | apply pw_below_drewN | apply below_drew1 | refine below_set ?_ GE225.out | refine below_set ?_ GE226.out) | exact HB.out)) hb); clear BK225; clear BK226; clear HB; have HO229 := n0_; have HO232 := n1_; have BK225 := n2_; have BK226 := n3_; have HB := n4_; clear n0_ n1_ n2_ n3_ n4_; (try clear hb); (try clear hb2); (try clear hk); (try clear hi); (try clear ho0); (try clear ho1)) | ((with_reducible refine gate_dst (N := 5) rfl ?_); refine zX (N := 5) (cs := #[.slice none 0 0, .slice none 0 0]) (t := 28) ?_; intro gb233 hg w9 hbox hb; have n0_ := Aside0.mk (Kd.R_below (by (with_reducible repeat (first | apply Kd.R_alloc | apply Kd.R_drewN | apply Kd.R_drew)); exact HO229.out) hb); have n1_ := Aside0.mk (Kd.S_below (by (with_reducible repeat (first | apply Kd.S_alloc | apply Kd.S_drewN | apply Kd.S_drew)); exact HO232.out) hb); have n2_ := Aside0.mk (blk_below (g := gb225) (o := .cells #[.slice A0_0 l0_0.length c0_0, .slice A0_1 l0_1.length c0_1] 28 (0, 0)) (by (with_reducible repeat (first | refine blk_drewN ?_ _ | refine blk_drew ?_ | refine blk_alloc ?_ _)); exact BK225.out) hb); have n3_ := Aside0.mk (blk_below (g := gb226) (o := .cells #[.slice none 0 0, .slice none 0 0] 28 (0, 0)) (by (with_reducible repeat (first | refine blk_drewN ?_ _ | refine blk_drew ?_ | refine blk_alloc ?_ _)); exact BK226.out) hb); have n4_ := Aside0.mk (below_step (by repeat (first | (with_reducible first | exact HB.out | apply below_alloc | apply pw_below_drewN | apply below_drew1 | refine below_set ?_ GE225.out | refine below_set ?_ GE226.out) | exact HB.out)) hb); have n5_ := Aside0.mk (hbox); have n6_ := Aside0.mk ((by rw [hg]; exact (below_size (by repeat (first | (with_reducible first | exact HB.out | apply below_alloc | apply pw_below_drewN | apply below_drew1 | refine below_set ?_ GE225.out | refine below_set ?_ GE226.out) | exact HB.out))) : w.heap.size ≤ gb233)); have n7_ := Aside0.mk ((by rw [hg]; exact (below_size (by repeat (first | (with_reducible first | exact HB.out | apply below_alloc | apply pw_below_drewN | apply below_drew1 | refine below_set ?_ GE225.out | refine below_set ?_ GE226.out) | exact HB.out))) : w.heap.size ≤ gb233)); have n8_ := Aside0.mk ((by rw [hg]; exact Nat.ne_of_lt (blk_lt (g := gb225) (o := .cells #[.slice A0_0 l0_0.length c0_0, .slice A0_1 l0_1.length c0_1] 28 (0, 0)) (by (with_reducible repeat (first | refine blk_drewN ?_ _ | refine blk_drew ?_ | refine blk_alloc ?_ _)); exact BK225.out)) : gb225 ≠ gb233)); have n9_ := Aside0.mk ((by rw [hg]; exact Nat.ne_of_gt (blk_lt (g := gb225) (o := .cells #[.slice A0_0 l0_0.length c0_0, .slice A0_1 l0_1.length c0_1] 28 (0, 0)) (by (with_reducible repeat (first | refine blk_drewN ?_ _ | refine blk_drew ?_ | refine blk_alloc ?_ _)); exact BK225.out)) : gb233 ≠ gb225)); have n10_ := Aside0.mk ((by rw [hg]; exact Nat.ne_of_lt (blk_lt (g := gb226) (o := .cells #[.slice none 0 0, .slice none 0 0] 28 (0, 0)) (by (with_reducible repeat (first | refine blk_drewN ?_ _ | refine blk_drew ?_ | refine blk_alloc ?_ _)); exact BK226.out)) : gb226 ≠ gb233)); have n11_ := Aside0.mk ((by rw [hg]; exact Nat.ne_of_gt (blk_lt (g := gb226) (o := .cells #[.slice none 0 0, .slice none 0 0] 28 (0, 0)) (by (with_reducible repeat (first | refine blk_drewN ?_ _ | refine blk_drew ?_ | refine blk_alloc ?_ _)); exact BK226.out)) : gb233 ≠ gb226)); clear HO229; clear HO232; clear BK225; clear BK226; clear HB; have HO229 := n0_; have HO232 := n1_; have BK225 := n2_; have BK226 := n3_; have HB := n4_; have BK233 := n5_; have GW233 := n6_; have GE233 := n7_; have NB225_233 := n8_; have NB233_225 := n9_; have NB226_233 := n10_; have NB233_226 := n11_; clear n0_ n1_ n2_ n3_ n4_ n5_ n6_ n7_ n8_ n9_ n10_ n11_; clear hb hbox hg; obtain ⟨Ao10, co10, eo10⟩ := Kd.R_slice HO229.out; subst eo10; have hnb11 := NB233_225.out; have hnc11 := NB225_233.out; have hnb12 := NB233_226.out; have hnc12 := NB226_233.out; have hcz13_0 : w9.cell? ⟨gb233, 0, none⟩ = some (.slice none 0 0) := (blk_cell BK233.out 0).trans rfl; have hcz13_1 : w9.cell? ⟨gb233, 1, none⟩ = some (.slice none 0 0) := (blk_cell BK233.out 1).trans rfl; have hfz13_0 := blk_frozen BK233.out 0; have hfz13_1 := blk_frozen BK233.out 1; obtain ⟨Ao14, co14, eo14⟩ := Kd.S_slice HO232.out; subst eo14))
 go_loopg [1, 6] k (fun kq v1 v6 w' => ∃ (x1_1 : Int) (x6_1 : Int) (x234000_1 : List Int) (x234001_1 : List (List Int)) (u234000 : Value) (u234001 : Value), v1 = .int .i64 x1_1 ∧ v6 = .int .i64 x6_1 ∧ Aside0 (spec_l17Column.l0 kq x1_1 x6_1 x234000_1 x234001_1 = some (r1, r2)) ∧ Aside0 (kq ≤ k) ∧ Aside0 (Kd.R (Kd.int .i64) 3 w' w.heap.size (fun _ => True) u234000 x234000_1) ∧ Aside0 (Kd.S (Kd.slice 3 (Kd.int .i64)) 22 w' w.heap.size (fun k_ => some k_ ≠ (u234000 : Value).ownBlock) u234001 x234001_1) ∧ Aside0 (w'.heap[gb225]? = some (.cells #[(.slice A0_0 l0_0.length c0_0), (.slice A0_1 l0_1.length c0_1)] 28 (0, 0))) ∧ Aside0 (w'.heap[gb226]? = some (.cells #[(.slice none 0 0), (.slice none 0 0)] 28 (0, 0))) ∧ Aside0 (w'.heap[gb233]? = some (.cells #[u234000, u234001] 28 (0, 0))) ∧ Aside0 (Below w.heap.size w w'))
 case atStart => exact ⟨(a1), (0), (t227), (t230), (.slice Ao10 t227.length co10), (.slice Ao14 t230.length co14), (by first | rfl | (simp; done) | (simp [*]; done)), (by first | rfl | (simp; done) | (simp [*]; done)), H', ⟨Nat.le_refl _⟩, ⟨by (with_reducible repeat (first | apply Kd.R_alloc | apply Kd.R_drewN | apply Kd.R_drew)); exact Kd.R_mono (Kd.R_far (p := ⟨gb233, 1, none⟩) (Kd.R_far (p := ⟨gb233, 0, none⟩) (Kd.R_types HO229.out BK233.out (by decide)) (fun _ hk => hk.2) (.slice Ao10 t227.length co10)) (fun _ hk => hk.2) (.slice Ao14 t230.length co14)) (fun _ hk => trivial)⟩, ⟨by (with_reducible repeat (first | apply Kd.S_alloc | apply Kd.S_drewN | apply Kd.S_drew)); exact Kd.S_mono (Kd.S_far (p := ⟨gb233, 1, none⟩) (Kd.S_far (p := ⟨gb233, 0, none⟩) (Kd.S_types HO232.out BK233.out (by decide)) (fun _ hk => hk.2) (.slice Ao10 t227.length co10)) (fun _ hk => hk.2) (.slice Ao14 t230.length co14)) (fun _ hk => hk.1)⟩, ⟨by (with_reducible repeat (first | refine blk_drewN ?_ _ | refine blk_drew ?_ | refine blk_alloc ?_ _)); refine blk_far ?_ NB225_233.out _; (with_reducible repeat (first | refine blk_drewN ?_ _ | refine blk_drew ?_ | refine blk_alloc ?_ _)); refine blk_far ?_ NB225_233.out _; (with_reducible repeat (first | refine blk_drewN ?_ _ | refine blk_drew ?_ | refine blk_alloc ?_ _)); exact BK225.out⟩, ⟨by (with_reducible repeat (first | refine blk_drewN ?_ _ | refine blk_drew ?_ | refine blk_alloc ?_ _)); refine blk_far ?_ NB226_233.out _; (with_reducible repeat (first | refine blk_drewN ?_ _ | refine blk_drew ?_ | refine blk_alloc ?_ _)); refine blk_far ?_ NB226_233.out _; (with_reducible repeat (first | refine blk_drewN ?_ _ | refine blk_drew ?_ | refine blk_alloc ?_ _)); exact BK226.out⟩, ⟨by (with_reducible repeat (first | refine blk_drewN ?_ _ | refine blk_drew ?_ | refine blk_alloc ?_ _)); refine blk_put (cs := #[.slice Ao10 t227.length co10, .slice none 0 0]) ?_ 1 _ rfl; (with_reducible repeat (first | refine blk_drewN ?_ _ | refine blk_drew ?_ | refine blk_alloc ?_ _)); refine blk_put (cs := #[.slice none 0 0, .slice none 0 0]) ?_ 0 _ rfl; (with_reducible repeat (first | refine blk_drewN ?_ _ | refine blk_drew ?_ | refine blk_alloc ?_ _)); exact BK233.out⟩, ⟨by repeat (first | (with_reducible first | exact HB.out | apply below_alloc | apply pw_below_drewN | apply below_drew1 | refine below_set ?_ GE225.out | refine below_set ?_ GE226.out | refine below_set ?_ GE233.out) | exact HB.out)⟩⟩
 case round =>
  clear H'
  try clear c1
  try clear p2
  try clear c6
  try clear c8
  try clear c11
  try clear c12
  try clear hcz13_0
  try clear hcz13_1
  try clear hcz7_0
  try clear hcz7_1
  try clear hfz13_0
  try clear hfz13_1
  try clear hfz7_0
  try clear hfz7_1
  obtain ⟨x1_1, x6_1, x234000_1, x234001_1, u234000, u234001, rfl, rfl, HA, HK1, HO_234000, HO_234001, BK225, BK226, BK233, HB⟩ := hrel
  cases gk with
  | zero => exact absurd HA.out (by simp [spec_l17Column.l0])
  | succ k1 =>
   have H := HA.out
   clear HA
   simp only [spec_l17Column.l0] at H
   have HC15 := Aside0.mk H
   clear H
   go_upto_block 2 with (fail)
   go_cut [7] (fun v7 wc => ∃ (kq : Nat) (x7_14 : Int), v7 = .int .i64 x7_14 ∧ Aside0 (spec_l17Column.j2 kq x1_1 x6_1 x7_14 x234000_1 x234001_1 = some (r1, r2)) ∧ Aside0 (kq ≤ k1) ∧ Aside0 (Kd.R (Kd.int .i64) 3 wc w.heap.size (fun _ => True) u234000 x234000_1) ∧ Aside0 (Kd.S (Kd.slice 3 (Kd.int .i64)) 22 wc w.heap.size (fun k_ => some k_ ≠ (u234000 : Value).ownBlock) u234001 x234001_1) ∧ Aside0 (wc.heap[gb225]? = some (.cells #[(.slice A0_0 l0_0.length c0_0), (.slice A0_1 l0_1.length c0_1)] 28 (0, 0))) ∧ Aside0 (wc.heap[gb226]? = some (.cells #[(.slice none 0 0), (.slice none 0 0)] 28 (0, 0))) ∧ Aside0 (wc.heap[gb233]? = some (.cells #[u234000, u234001] 28 (0, 0))) ∧ Aside0 (Below w.heap.size w wc))
   case first =>
    have H := HC15.out
    clear HC15
    have H' := Aside0.mk H
    clear H
    go_wp2
    go_loopg [7] k1 (fun kq v7 w' => ∃ (x7_2 : Int), v7 = .int .i64 x7_2 ∧ Aside0 (spec_l17Column.l1 kq x1_1 x6_1 x7_2 x234000_1 x234001_1 = some (r1, r2)) ∧ Aside0 (kq ≤ k1) ∧ Aside0 (Kd.R (Kd.int .i64) 3 w' w.heap.size (fun _ => True) u234000 x234000_1) ∧ Aside0 (Kd.S (Kd.slice 3 (Kd.int .i64)) 22 w' w.heap.size (fun k_ => some k_ ≠ (u234000 : Value).ownBlock) u234001 x234001_1) ∧ Aside0 (w'.heap[gb225]? = some (.cells #[(.slice A0_0 l0_0.length c0_0), (.slice A0_1 l0_1.length c0_1)] 28 (0, 0))) ∧ Aside0 (w'.heap[gb226]? = some (.cells #[(.slice none 0 0), (.slice none 0 0)] 28 (0, 0))) ∧ Aside0 (w'.heap[gb233]? = some (.cells #[u234000, u234001] 28 (0, 0))) ∧ Aside0 (Below w.heap.size w w'))
    case atStart => exact ⟨(0), (by first | rfl | (simp; done) | (simp [*]; done)), H', ⟨Nat.le_refl _⟩, ⟨by (with_reducible repeat (first | apply Kd.R_alloc | apply Kd.R_drewN | apply Kd.R_drew)); exact HO_234000.out⟩, ⟨by (with_reducible repeat (first | apply Kd.S_alloc | apply Kd.S_drewN | apply Kd.S_drew)); exact HO_234001.out⟩, ⟨by (with_reducible repeat (first | refine blk_drewN ?_ _ | refine blk_drew ?_ | refine blk_alloc ?_ _)); exact BK225.out⟩, ⟨by (with_reducible repeat (first | refine blk_drewN ?_ _ | refine blk_drew ?_ | refine blk_alloc ?_ _)); exact BK226.out⟩, ⟨by (with_reducible repeat (first | refine blk_drewN ?_ _ | refine blk_drew ?_ | refine blk_alloc ?_ _)); exact BK233.out⟩, ⟨by repeat (first | (with_reducible first | exact HB.out | apply below_alloc | apply pw_below_drewN | apply below_drew1 | refine below_set ?_ GE225.out | refine below_set ?_ GE226.out | refine below_set ?_ GE233.out) | exact HB.out)⟩⟩
    case round =>
     clear H'
     try clear c1
     try clear p2
     try clear c6
     try clear c8
     try clear c11
     try clear c12
     try clear hcz13_0
     try clear hcz13_1
     try clear hcz7_0
     try clear hcz7_1
     try clear hfz13_0
     try clear hfz13_1
     try clear hfz7_0
     try clear hfz7_1
     try clear p2
     obtain ⟨x7_2, rfl, HA, HK2, HO_234000, HO_234001, BK225, BK226, BK233, HB⟩ := hrel
     cases gk with
     | zero => exact absurd HA.out (by simp [spec_l17Column.l1])
     | succ k2 =>
      have H := HA.out
      clear HA
      simp only [spec_l17Column.l1] at H
      replace H := Option.bind_eq_some_iff.mp H
      obtain ⟨t234, A160, H⟩ := H
      replace H : (if t234 > 0 then ((spec_l5Entry.f k2 x234000_1 x234001_1 x7_2 x6_1).bind fun t235 => (if t235 < x1_1 then (spec_l17Column.l1 k2 x1_1 x6_1 (wrap64 (x7_2 + 1)) x234000_1 x234001_1) else (spec_l17Column.j2 k2 x1_1 x6_1 x7_2 x234000_1 x234001_1))) else (spec_l17Column.j2 k2 x1_1 x6_1 x7_2 x234000_1 x234001_1)) = some (r1, r2) := H
      have A16 := Aside0.mk A160
      clear A160
      by_cases c17 : t234 > 0
      ·rw [if_pos c17] at H
       have c17b0 : decide (0 < t234) = true := decide_eq_true c17
       clear c17
       (first | rw [c17b0] | (simp only [i64_w, i32_w]; rw [c17b0]) | skip)
       replace H := Option.bind_eq_some_iff.mp H
       obtain ⟨t235, A180, H⟩ := H
       replace H : (if t235 < x1_1 then (spec_l17Column.l1 k2 x1_1 x6_1 (wrap64 (x7_2 + 1)) x234000_1 x234001_1) else (spec_l17Column.j2 k2 x1_1 x6_1 x7_2 x234000_1 x234001_1)) = some (r1, r2) := H
       have A18 := Aside0.mk A180
       clear A180
       by_cases c19 : t235 < x1_1
       ·rw [if_pos c19] at H
        have c19b0 : decide (t235 < x1_1) = true := decide_eq_true c19
        clear c19
        have H' := Aside0.mk H
        clear H
        have hnb20 := NB233_225.out
        have hnc20 := NB225_233.out
        have hnb21 := NB233_226.out
        have hnc21 := NB226_233.out
        have hcz22_0 : wr.cell? ⟨gb233, 0, none⟩ = some (u234000) := (blk_cell BK233.out 0).trans rfl
        have hcz22_1 : wr.cell? ⟨gb233, 1, none⟩ = some (u234001) := (blk_cell BK233.out 1).trans rfl
        have hfz22_0 := blk_frozen BK233.out 0
        have hfz22_1 := blk_frozen BK233.out 1
        obtain ⟨Ao23, co23, eo23⟩ := Kd.R_slice HO_234000.out
        subst eo23
        obtain ⟨Ao24, co24, eo24⟩ := Kd.S_slice HO_234001.out
        subst eo24
        go_wp2_with (first | ((with_reducible refine gate_callee (f := 74) rfl ?_); refine zG (some 16) Try.func74 #[.agg #[.slice Ao23 x234000_1.length co23, .slice Ao24 x234001_1.length co24], .int .i64 x7_2, .int .i64 x6_1] ?_; (with_reducible refine (spec_l5Entry.calls k2 _ _ x234000_1 _ _ x234001_1 x7_2 x6_1 t234 _ ?side1 ?side2 ?side3 ?side4 A16.out).mono ?_); (case side1 => repeat (first | exact (Kd.R_reads' HO_234000.out).2.2 | (with_reducible refine Kd.C_alloc ?_ _) | (with_reducible refine Kd.C_drewN ?_ _) | (with_reducible refine Kd.C_drew ?_))); (case side2 => exact (Kd.R_reads' HO_234000.out).2.1); (case side3 => repeat (first | exact (Kd.S_reads' HO_234001.out).2.2 | (with_reducible refine Kd.C_alloc ?_ _) | (with_reducible refine Kd.C_drewN ?_ _) | (with_reducible refine Kd.C_drew ?_))); (case side4 => exact (Kd.S_reads' HO_234001.out).2.1); rintro e w25 ⟨rfl, hb⟩; refine ⟨_, rfl, ?_⟩; have n0_ := Aside0.mk (Kd.R_below (by (with_reducible repeat (first | apply Kd.R_alloc | apply Kd.R_drewN | apply Kd.R_drew)); exact HO_234000.out) hb); have n1_ := Aside0.mk (Kd.S_below (by (with_reducible repeat (first | apply Kd.S_alloc | apply Kd.S_drewN | apply Kd.S_drew)); exact HO_234001.out) hb); have n2_ := Aside0.mk (blk_below (g := gb225) (o := .cells #[.slice A0_0 l0_0.length c0_0, .slice A0_1 l0_1.length c0_1] 28 (0, 0)) (by (with_reducible repeat (first | refine blk_drewN ?_ _ | refine blk_drew ?_ | refine blk_alloc ?_ _)); exact BK225.out) hb); have n3_ := Aside0.mk (blk_below (g := gb226) (o := .cells #[.slice none 0 0, .slice none 0 0] 28 (0, 0)) (by (with_reducible repeat (first | refine blk_drewN ?_ _ | refine blk_drew ?_ | refine blk_alloc ?_ _)); exact BK226.out) hb); have n4_ := Aside0.mk (blk_below (g := gb233) (o := .cells #[.slice Ao23 x234000_1.length co23, .slice Ao24 x234001_1.length co24] 28 (0, 0)) (by (with_reducible repeat (first | refine blk_drewN ?_ _ | refine blk_drew ?_ | refine blk_alloc ?_ _)); exact BK233.out) hb); have n5_ := Aside0.mk (below_step (by repeat (first | (with_reducible first | exact HB.out | apply below_alloc | apply pw_below_drewN | apply below_drew1 | refine below_set ?_ GE225.out | refine below_set ?_ GE226.out | refine below_set ?_ GE233.out) | exact HB.out)) hb); clear HO_234000; clear HO_234001; clear BK225; clear BK226; clear BK233; clear HB; have HO_234000 := n0_; have HO_234001 := n1_; have BK225 := n2_; have BK226 := n3_; have BK233 := n4_; have HB := n5_; clear n0_ n1_ n2_ n3_ n4_ n5_; (try clear hb); (try clear hb2); (try clear hk); (try clear hi); have hcz26_0 : w25.cell? ⟨gb233, 0, none⟩ = some (.slice Ao23 x234000_1.length co23) := (blk_cell BK233.out 0).trans rfl; have hcz26_1 : w25.cell? ⟨gb233, 1, none⟩ = some (.slice Ao24 x234001_1.length co24) := (blk_cell BK233.out 1).trans rfl; have hfz26_0 := blk_frozen BK233.out 0; have hfz26_1 := blk_frozen BK233.out 1) | (go_at_call 74; (with_reducible refine (spec_l5Entry.calls k2 _ _ x234000_1 _ _ x234001_1 x7_2 x6_1 t235 _ ?side1 ?side2 ?side3 ?side4 A18.out).mono ?_); (case side1 => repeat (first | exact (Kd.R_reads' HO_234000.out).2.2 | (with_reducible refine Kd.C_alloc ?_ _) | (with_reducible refine Kd.C_drewN ?_ _) | (with_reducible refine Kd.C_drew ?_))); (case side2 => exact (Kd.R_reads' HO_234000.out).2.1); (case side3 => repeat (first | exact (Kd.S_reads' HO_234001.out).2.2 | (with_reducible refine Kd.C_alloc ?_ _) | (with_reducible refine Kd.C_drewN ?_ _) | (with_reducible refine Kd.C_drew ?_))); (case side4 => exact (Kd.S_reads' HO_234001.out).2.1); rintro e w27 ⟨rfl, hb⟩; have n0_ := Aside0.mk (Kd.R_below (by (with_reducible repeat (first | apply Kd.R_alloc | apply Kd.R_drewN | apply Kd.R_drew)); exact HO_234000.out) hb); have n1_ := Aside0.mk (Kd.S_below (by (with_reducible repeat (first | apply Kd.S_alloc | apply Kd.S_drewN | apply Kd.S_drew)); exact HO_234001.out) hb); have n2_ := Aside0.mk (blk_below (g := gb225) (o := .cells #[.slice A0_0 l0_0.length c0_0, .slice A0_1 l0_1.length c0_1] 28 (0, 0)) (by (with_reducible repeat (first | refine blk_drewN ?_ _ | refine blk_drew ?_ | refine blk_alloc ?_ _)); exact BK225.out) hb); have n3_ := Aside0.mk (blk_below (g := gb226) (o := .cells #[.slice none 0 0, .slice none 0 0] 28 (0, 0)) (by (with_reducible repeat (first | refine blk_drewN ?_ _ | refine blk_drew ?_ | refine blk_alloc ?_ _)); exact BK226.out) hb); have n4_ := Aside0.mk (blk_below (g := gb233) (o := .cells #[.slice Ao23 x234000_1.length co23, .slice Ao24 x234001_1.length co24] 28 (0, 0)) (by (with_reducible repeat (first | refine blk_drewN ?_ _ | refine blk_drew ?_ | refine blk_alloc ?_ _)); exact BK233.out) hb); have n5_ := Aside0.mk (below_step (by repeat (first | (with_reducible first | exact HB.out | apply below_alloc | apply pw_below_drewN | apply below_drew1 | refine below_set ?_ GE225.out | refine below_set ?_ GE226.out | refine below_set ?_ GE233.out) | exact HB.out)) hb); clear HO_234000; clear HO_234001; clear BK225; clear BK226; clear BK233; clear HB; have HO_234000 := n0_; have HO_234001 := n1_; have BK225 := n2_; have BK226 := n3_; have BK233 := n4_; have HB := n5_; clear n0_ n1_ n2_ n3_ n4_ n5_; (try clear hb); (try clear hb2); (try clear hk); (try clear hi)))
        go_roundg k2
        case measure => have := HK1.out; have := HK2.out; omega
        case rel => exact ⟨(wrap64 (x7_2 + 1)), (by first | rfl | (simp; done) | (simp [*]; done)), H', ⟨by have := HK1.out; have := HK2.out; omega⟩, ⟨by (with_reducible repeat (first | apply Kd.R_alloc | apply Kd.R_drewN | apply Kd.R_drew)); exact HO_234000.out⟩, ⟨by (with_reducible repeat (first | apply Kd.S_alloc | apply Kd.S_drewN | apply Kd.S_drew)); exact HO_234001.out⟩, ⟨by (with_reducible repeat (first | refine blk_drewN ?_ _ | refine blk_drew ?_ | refine blk_alloc ?_ _)); exact BK225.out⟩, ⟨by (with_reducible repeat (first | refine blk_drewN ?_ _ | refine blk_drew ?_ | refine blk_alloc ?_ _)); exact BK226.out⟩, ⟨by (with_reducible repeat (first | refine blk_drewN ?_ _ | refine blk_drew ?_ | refine blk_alloc ?_ _)); exact BK233.out⟩, ⟨by repeat (first | (with_reducible first | exact HB.out | apply below_alloc | apply pw_below_drewN | apply below_drew1 | refine below_set ?_ GE225.out | refine below_set ?_ GE226.out | refine below_set ?_ GE233.out) | exact HB.out)⟩⟩
       ·rw [if_neg c19] at H
        have c19b0 : decide (t235 < x1_1) = false := decide_eq_false c19
        clear c19
        have H' := Aside0.mk H
        clear H
        have hnb28 := NB233_225.out
        have hnc28 := NB225_233.out
        have hnb29 := NB233_226.out
        have hnc29 := NB226_233.out
        have hcz30_0 : wr.cell? ⟨gb233, 0, none⟩ = some (u234000) := (blk_cell BK233.out 0).trans rfl
        have hcz30_1 : wr.cell? ⟨gb233, 1, none⟩ = some (u234001) := (blk_cell BK233.out 1).trans rfl
        have hfz30_0 := blk_frozen BK233.out 0
        have hfz30_1 := blk_frozen BK233.out 1
        obtain ⟨Ao31, co31, eo31⟩ := Kd.R_slice HO_234000.out
        subst eo31
        obtain ⟨Ao32, co32, eo32⟩ := Kd.S_slice HO_234001.out
        subst eo32
        go_wp2_with (first | ((with_reducible refine gate_callee (f := 74) rfl ?_); refine zG (some 16) Try.func74 #[.agg #[.slice Ao31 x234000_1.length co31, .slice Ao32 x234001_1.length co32], .int .i64 x7_2, .int .i64 x6_1] ?_; (with_reducible refine (spec_l5Entry.calls k2 _ _ x234000_1 _ _ x234001_1 x7_2 x6_1 t234 _ ?side1 ?side2 ?side3 ?side4 A16.out).mono ?_); (case side1 => repeat (first | exact (Kd.R_reads' HO_234000.out).2.2 | (with_reducible refine Kd.C_alloc ?_ _) | (with_reducible refine Kd.C_drewN ?_ _) | (with_reducible refine Kd.C_drew ?_))); (case side2 => exact (Kd.R_reads' HO_234000.out).2.1); (case side3 => repeat (first | exact (Kd.S_reads' HO_234001.out).2.2 | (with_reducible refine Kd.C_alloc ?_ _) | (with_reducible refine Kd.C_drewN ?_ _) | (with_reducible refine Kd.C_drew ?_))); (case side4 => exact (Kd.S_reads' HO_234001.out).2.1); rintro e w33 ⟨rfl, hb⟩; refine ⟨_, rfl, ?_⟩; have n0_ := Aside0.mk (Kd.R_below (by (with_reducible repeat (first | apply Kd.R_alloc | apply Kd.R_drewN | apply Kd.R_drew)); exact HO_234000.out) hb); have n1_ := Aside0.mk (Kd.S_below (by (with_reducible repeat (first | apply Kd.S_alloc | apply Kd.S_drewN | apply Kd.S_drew)); exact HO_234001.out) hb); have n2_ := Aside0.mk (blk_below (g := gb225) (o := .cells #[.slice A0_0 l0_0.length c0_0, .slice A0_1 l0_1.length c0_1] 28 (0, 0)) (by (with_reducible repeat (first | refine blk_drewN ?_ _ | refine blk_drew ?_ | refine blk_alloc ?_ _)); exact BK225.out) hb); have n3_ := Aside0.mk (blk_below (g := gb226) (o := .cells #[.slice none 0 0, .slice none 0 0] 28 (0, 0)) (by (with_reducible repeat (first | refine blk_drewN ?_ _ | refine blk_drew ?_ | refine blk_alloc ?_ _)); exact BK226.out) hb); have n4_ := Aside0.mk (blk_below (g := gb233) (o := .cells #[.slice Ao31 x234000_1.length co31, .slice Ao32 x234001_1.length co32] 28 (0, 0)) (by (with_reducible repeat (first | refine blk_drewN ?_ _ | refine blk_drew ?_ | refine blk_alloc ?_ _)); exact BK233.out) hb); have n5_ := Aside0.mk (below_step (by repeat (first | (with_reducible first | exact HB.out | apply below_alloc | apply pw_below_drewN | apply below_drew1 | refine below_set ?_ GE225.out | refine below_set ?_ GE226.out | refine below_set ?_ GE233.out) | exact HB.out)) hb); clear HO_234000; clear HO_234001; clear BK225; clear BK226; clear BK233; clear HB; have HO_234000 := n0_; have HO_234001 := n1_; have BK225 := n2_; have BK226 := n3_; have BK233 := n4_; have HB := n5_; clear n0_ n1_ n2_ n3_ n4_ n5_; (try clear hb); (try clear hb2); (try clear hk); (try clear hi); have hcz34_0 : w33.cell? ⟨gb233, 0, none⟩ = some (.slice Ao31 x234000_1.length co31) := (blk_cell BK233.out 0).trans rfl; have hcz34_1 : w33.cell? ⟨gb233, 1, none⟩ = some (.slice Ao32 x234001_1.length co32) := (blk_cell BK233.out 1).trans rfl; have hfz34_0 := blk_frozen BK233.out 0; have hfz34_1 := blk_frozen BK233.out 1) | (go_at_call 74; (with_reducible refine (spec_l5Entry.calls k2 _ _ x234000_1 _ _ x234001_1 x7_2 x6_1 t235 _ ?side1 ?side2 ?side3 ?side4 A18.out).mono ?_); (case side1 => repeat (first | exact (Kd.R_reads' HO_234000.out).2.2 | (with_reducible refine Kd.C_alloc ?_ _) | (with_reducible refine Kd.C_drewN ?_ _) | (with_reducible refine Kd.C_drew ?_))); (case side2 => exact (Kd.R_reads' HO_234000.out).2.1); (case side3 => repeat (first | exact (Kd.S_reads' HO_234001.out).2.2 | (with_reducible refine Kd.C_alloc ?_ _) | (with_reducible refine Kd.C_drewN ?_ _) | (with_reducible refine Kd.C_drew ?_))); (case side4 => exact (Kd.S_reads' HO_234001.out).2.1); rintro e w35 ⟨rfl, hb⟩; have n0_ := Aside0.mk (Kd.R_below (by (with_reducible repeat (first | apply Kd.R_alloc | apply Kd.R_drewN | apply Kd.R_drew)); exact HO_234000.out) hb); have n1_ := Aside0.mk (Kd.S_below (by (with_reducible repeat (first | apply Kd.S_alloc | apply Kd.S_drewN | apply Kd.S_drew)); exact HO_234001.out) hb); have n2_ := Aside0.mk (blk_below (g := gb225) (o := .cells #[.slice A0_0 l0_0.length c0_0, .slice A0_1 l0_1.length c0_1] 28 (0, 0)) (by (with_reducible repeat (first | refine blk_drewN ?_ _ | refine blk_drew ?_ | refine blk_alloc ?_ _)); exact BK225.out) hb); have n3_ := Aside0.mk (blk_below (g := gb226) (o := .cells #[.slice none 0 0, .slice none 0 0] 28 (0, 0)) (by (with_reducible repeat (first | refine blk_drewN ?_ _ | refine blk_drew ?_ | refine blk_alloc ?_ _)); exact BK226.out) hb); have n4_ := Aside0.mk (blk_below (g := gb233) (o := .cells #[.slice Ao31 x234000_1.length co31, .slice Ao32 x234001_1.length co32] 28 (0, 0)) (by (with_reducible repeat (first | refine blk_drewN ?_ _ | refine blk_drew ?_ | refine blk_alloc ?_ _)); exact BK233.out) hb); have n5_ := Aside0.mk (below_step (by repeat (first | (with_reducible first | exact HB.out | apply below_alloc | apply pw_below_drewN | apply below_drew1 | refine below_set ?_ GE225.out | refine below_set ?_ GE226.out | refine below_set ?_ GE233.out) | exact HB.out)) hb); clear HO_234000; clear HO_234001; clear BK225; clear BK226; clear BK233; clear HB; have HO_234000 := n0_; have HO_234001 := n1_; have BK225 := n2_; have BK226 := n3_; have BK233 := n4_; have HB := n5_; clear n0_ n1_ n2_ n3_ n4_ n5_; (try clear hb); (try clear hb2); (try clear hk); (try clear hi)))
        go_meet
        case rel => exact ⟨_, (x7_2), (by first | rfl | (simp; done) | (simp [*]; done)), H', ⟨by have := HK1.out; have := HK2.out; first | omega | exact Nat.le_refl _⟩, ⟨by (with_reducible repeat (first | apply Kd.R_alloc | apply Kd.R_drewN | apply Kd.R_drew)); exact HO_234000.out⟩, ⟨by (with_reducible repeat (first | apply Kd.S_alloc | apply Kd.S_drewN | apply Kd.S_drew)); exact HO_234001.out⟩, ⟨by (with_reducible repeat (first | refine blk_drewN ?_ _ | refine blk_drew ?_ | refine blk_alloc ?_ _)); exact BK225.out⟩, ⟨by (with_reducible repeat (first | refine blk_drewN ?_ _ | refine blk_drew ?_ | refine blk_alloc ?_ _)); exact BK226.out⟩, ⟨by (with_reducible repeat (first | refine blk_drewN ?_ _ | refine blk_drew ?_ | refine blk_alloc ?_ _)); exact BK233.out⟩, ⟨by repeat (first | (with_reducible first | exact HB.out | apply below_alloc | apply pw_below_drewN | apply below_drew1 | refine below_set ?_ GE225.out | refine below_set ?_ GE226.out | refine below_set ?_ GE233.out) | exact HB.out)⟩⟩
      ·rw [if_neg c17] at H
       have c17b0 : decide (0 < t234) = false := decide_eq_false c17
       clear c17
       (first | rw [c17b0] | (simp only [i64_w, i32_w]; rw [c17b0]) | skip)
       have H' := Aside0.mk H
       clear H
       have hnb36 := NB233_225.out
       have hnc36 := NB225_233.out
       have hnb37 := NB233_226.out
       have hnc37 := NB226_233.out
       have hcz38_0 : wr.cell? ⟨gb233, 0, none⟩ = some (u234000) := (blk_cell BK233.out 0).trans rfl
       have hcz38_1 : wr.cell? ⟨gb233, 1, none⟩ = some (u234001) := (blk_cell BK233.out 1).trans rfl
       have hfz38_0 := blk_frozen BK233.out 0
       have hfz38_1 := blk_frozen BK233.out 1
       obtain ⟨Ao39, co39, eo39⟩ := Kd.R_slice HO_234000.out
       subst eo39
       obtain ⟨Ao40, co40, eo40⟩ := Kd.S_slice HO_234001.out
       subst eo40
       go_wp2_with (first | ((with_reducible refine gate_callee (f := 74) rfl ?_); refine zG (some 16) Try.func74 #[.agg #[.slice Ao39 x234000_1.length co39, .slice Ao40 x234001_1.length co40], .int .i64 x7_2, .int .i64 x6_1] ?_; (with_reducible refine (spec_l5Entry.calls k2 _ _ x234000_1 _ _ x234001_1 x7_2 x6_1 t234 _ ?side1 ?side2 ?side3 ?side4 A16.out).mono ?_); (case side1 => repeat (first | exact (Kd.R_reads' HO_234000.out).2.2 | (with_reducible refine Kd.C_alloc ?_ _) | (with_reducible refine Kd.C_drewN ?_ _) | (with_reducible refine Kd.C_drew ?_))); (case side2 => exact (Kd.R_reads' HO_234000.out).2.1); (case side3 => repeat (first | exact (Kd.S_reads' HO_234001.out).2.2 | (with_reducible refine Kd.C_alloc ?_ _) | (with_reducible refine Kd.C_drewN ?_ _) | (with_reducible refine Kd.C_drew ?_))); (case side4 => exact (Kd.S_reads' HO_234001.out).2.1); rintro e w41 ⟨rfl, hb⟩; refine ⟨_, rfl, ?_⟩; have n0_ := Aside0.mk (Kd.R_below (by (with_reducible repeat (first | apply Kd.R_alloc | apply Kd.R_drewN | apply Kd.R_drew)); exact HO_234000.out) hb); have n1_ := Aside0.mk (Kd.S_below (by (with_reducible repeat (first | apply Kd.S_alloc | apply Kd.S_drewN | apply Kd.S_drew)); exact HO_234001.out) hb); have n2_ := Aside0.mk (blk_below (g := gb225) (o := .cells #[.slice A0_0 l0_0.length c0_0, .slice A0_1 l0_1.length c0_1] 28 (0, 0)) (by (with_reducible repeat (first | refine blk_drewN ?_ _ | refine blk_drew ?_ | refine blk_alloc ?_ _)); exact BK225.out) hb); have n3_ := Aside0.mk (blk_below (g := gb226) (o := .cells #[.slice none 0 0, .slice none 0 0] 28 (0, 0)) (by (with_reducible repeat (first | refine blk_drewN ?_ _ | refine blk_drew ?_ | refine blk_alloc ?_ _)); exact BK226.out) hb); have n4_ := Aside0.mk (blk_below (g := gb233) (o := .cells #[.slice Ao39 x234000_1.length co39, .slice Ao40 x234001_1.length co40] 28 (0, 0)) (by (with_reducible repeat (first | refine blk_drewN ?_ _ | refine blk_drew ?_ | refine blk_alloc ?_ _)); exact BK233.out) hb); have n5_ := Aside0.mk (below_step (by repeat (first | (with_reducible first | exact HB.out | apply below_alloc | apply pw_below_drewN | apply below_drew1 | refine below_set ?_ GE225.out | refine below_set ?_ GE226.out | refine below_set ?_ GE233.out) | exact HB.out)) hb); clear HO_234000; clear HO_234001; clear BK225; clear BK226; clear BK233; clear HB; have HO_234000 := n0_; have HO_234001 := n1_; have BK225 := n2_; have BK226 := n3_; have BK233 := n4_; have HB := n5_; clear n0_ n1_ n2_ n3_ n4_ n5_; (try clear hb); (try clear hb2); (try clear hk); (try clear hi)))
       go_meet
       case rel => exact ⟨_, (x7_2), (by first | rfl | (simp; done) | (simp [*]; done)), H', ⟨by have := HK1.out; have := HK2.out; first | omega | exact Nat.le_refl _⟩, ⟨by (with_reducible repeat (first | apply Kd.R_alloc | apply Kd.R_drewN | apply Kd.R_drew)); exact HO_234000.out⟩, ⟨by (with_reducible repeat (first | apply Kd.S_alloc | apply Kd.S_drewN | apply Kd.S_drew)); exact HO_234001.out⟩, ⟨by (with_reducible repeat (first | refine blk_drewN ?_ _ | refine blk_drew ?_ | refine blk_alloc ?_ _)); exact BK225.out⟩, ⟨by (with_reducible repeat (first | refine blk_drewN ?_ _ | refine blk_drew ?_ | refine blk_alloc ?_ _)); exact BK226.out⟩, ⟨by (with_reducible repeat (first | refine blk_drewN ?_ _ | refine blk_drew ?_ | refine blk_alloc ?_ _)); exact BK233.out⟩, ⟨by repeat (first | (with_reducible first | exact HB.out | apply below_alloc | apply pw_below_drewN | apply below_drew1 | refine below_set ?_ GE225.out | refine below_set ?_ GE226.out | refine below_set ?_ GE233.out) | exact HB.out)⟩⟩
   case rest =>
    clear HC15
    try clear c1
    try clear c2
    try clear p2
    try clear c3
    try clear c6
    try clear p6
    try clear c7
    try clear c8
    try clear c11
    try clear c12
    try clear c17
    try clear c17b0
    try clear c19
    try clear c19b0
    try clear c20
    try clear c21
    try clear c28
    try clear c29
    try clear c36
    try clear c37
    try clear hcz13_0
    try clear hcz13_1
    try clear hcz22_0
    try clear hcz22_1
    try clear hcz26_0
    try clear hcz26_1
    try clear hcz30_0
    try clear hcz30_1
    try clear hcz34_0
    try clear hcz34_1
    try clear hcz38_0
    try clear hcz38_1
    try clear hcz7_0
    try clear hcz7_1
    try clear hfz13_0
    try clear hfz13_1
    try clear hfz22_0
    try clear hfz22_1
    try clear hfz26_0
    try clear hfz26_1
    try clear hfz30_0
    try clear hfz30_1
    try clear hfz34_0
    try clear hfz34_1
    try clear hfz38_0
    try clear hfz38_1
    try clear hfz7_0
    try clear hfz7_1
    try clear p2
    obtain ⟨kq, x7_14, rfl, HA, HJ14, HO_234000, HO_234001, BK225, BK226, BK233, HB⟩ := hcut
    cases kq with
    | zero => exact absurd HA.out (by simp [spec_l17Column.j2])
    | succ kj14 =>
     have H := HA.out
     clear HA
     simp only [spec_l17Column.j2] at H
     replace H := Option.bind_eq_some_iff.mp H
     obtain ⟨t236, A420, H⟩ := H
     replace H : (if t236 = 0 then (if x7_14 = (x234001_1.length : Int) then (if x234001_1.length < 5864062014805 then ((some (x234001_1 ++ [(([] : List Int))] : List (List Int))).bind fun y240 => (if 0 ≤ x7_14 then (if x7_14 < (y240.length : Int) then (if (rd_L1 y240 x7_14).length < 17592186044416 then (some (x234000_1, (y240.set (x7_14 : Int).toNat ((rd_L1 y240 x7_14) ++ [x1_1])))) else (none)) else (none)) else (none))) else (none)) else (if 0 ≤ x7_14 then (if x7_14 < (x234001_1.length : Int) then (if (rd_L1 x234001_1 x7_14).length < 17592186044416 then (some (x234000_1, (x234001_1.set (x7_14 : Int).toNat ((rd_L1 x234001_1 x7_14) ++ [x1_1])))) else (none)) else (none)) else (none))) else (if 0 ≤ x7_14 then (if x7_14 < (x234001_1.length : Int) then (if 0 ≤ x6_1 then (if x6_1 < ((rd_L1 x234001_1 x7_14).length : Int) then (spec_l17Column.l0 kj14 t236 (wrap64 (x6_1 + 1)) x234000_1 (x234001_1.set (x7_14 : Int).toNat ((rd_L1 x234001_1 x7_14).set (x6_1 : Int).toNat x1_1))) else (none)) else (none)) else (none)) else (none))) = some (r1, r2) := H
     have A42 := Aside0.mk A420
     clear A420
     by_cases c43 : t236 = 0
     ·rw [if_pos c43] at H
      have c43b0 : (t236 == 0) = true := beq_iff_eq.mpr c43
      have c43b1 : (t236 != 0) = false := bne_eq_false_iff_eq.mpr c43
      clear c43
      by_cases c44 : x7_14 = (x234001_1.length : Int)
      ·rw [if_pos c44] at H
       have c44b0 : (x7_14 == (x234001_1.length : Int)) = true := beq_iff_eq.mpr c44
       have c44b1 : (x7_14 != (x234001_1.length : Int)) = false := bne_eq_false_iff_eq.mpr c44
       clear c44
       obtain ⟨y237, hy237⟩ : ∃ y_ : List Int, y_ = (([] : List Int)) := ⟨_, rfl⟩
       replace H : (if x234001_1.length < 5864062014805 then ((some (x234001_1 ++ [y237] : List (List Int))).bind fun y240 => (if 0 ≤ x7_14 then (if x7_14 < (y240.length : Int) then (if (rd_L1 y240 x7_14).length < 17592186044416 then (some (x234000_1, (y240.set (x7_14 : Int).toNat ((rd_L1 y240 x7_14) ++ [x1_1])))) else (none)) else (none)) else (none))) else (none)) = some (r1, r2) := by first | (rw [hy237]; with_reducible exact H) | (have H2_ := (Option.bind_some _ _).symm.trans H; rw [hy237]; with_reducible exact H2_) | (have H2_ := (Option.bind_some _ _).symm.trans H; with_reducible exact H2_) | with_reducible exact H | (rw [hy237]; exact H) | exact H
       have Ny237 := Aside0.mk hy237
       clear hy237
       by_cases c45 : x234001_1.length < 5864062014805
       ·rw [if_pos c45] at H
        have LMc45 := Aside0.mk c45
        clear c45
        obtain ⟨y240, hy240⟩ : ∃ y_ : List (List Int), y_ = (x234001_1 ++ [y237]) := ⟨_, rfl⟩
        replace H : (if 0 ≤ x7_14 then (if x7_14 < (y240.length : Int) then (if (rd_L1 y240 x7_14).length < 17592186044416 then (some (x234000_1, (y240.set (x7_14 : Int).toNat ((rd_L1 y240 x7_14) ++ [x1_1])))) else (none)) else (none)) else (none)) = some (r1, r2) := by first | (rw [hy240]; with_reducible exact H) | (have H2_ := (Option.bind_some _ _).symm.trans H; rw [hy240]; with_reducible exact H2_) | (have H2_ := (Option.bind_some _ _).symm.trans H; with_reducible exact H2_) | with_reducible exact H | (rw [hy240]; exact H) | exact H
        have Ny240 := Aside0.mk hy240
        clear hy240
        by_cases c46 : 0 ≤ x7_14
        ·rw [if_pos c46] at H
         have c46b0 : decide (0 ≤ x7_14) = true := decide_eq_true c46
         clear c46
         by_cases c47 : x7_14 < (y240.length : Int)
         ·rw [if_pos c47] at H
          have c47b0 : decide (x7_14 < (y240.length : Int)) = true := decide_eq_true c47
          clear c47
          by_cases c48 : (rd_L1 y240 x7_14).length < 17592186044416
          ·rw [if_pos c48] at H
           have LMc48 := Aside0.mk c48
           clear c48
           obtain ⟨y244, hy244⟩ : ∃ y_ : List Int, y_ = ((rd_L1 y240 x7_14) ++ [x1_1]) := ⟨_, rfl⟩
           replace H : (some (x234000_1, (y240.set (x7_14 : Int).toNat y244))) = some (r1, r2) := by first | (rw [hy244]; with_reducible exact H) | (have H2_ := (Option.bind_some _ _).symm.trans H; rw [hy244]; with_reducible exact H2_) | (have H2_ := (Option.bind_some _ _).symm.trans H; with_reducible exact H2_) | with_reducible exact H | (rw [hy244]; exact H) | exact H
           have Ny244 := Aside0.mk hy244
           clear hy244
           obtain ⟨y247, hy247⟩ : ∃ y_ : List (List Int), y_ = (y240.set (x7_14 : Int).toNat y244) := ⟨_, rfl⟩
           replace H : (some (x234000_1, y247)) = some (r1, r2) := by first | (rw [hy247]; with_reducible exact H) | (have H2_ := (Option.bind_some _ _).symm.trans H; rw [hy247]; with_reducible exact H2_) | (have H2_ := (Option.bind_some _ _).symm.trans H; with_reducible exact H2_) | with_reducible exact H | (rw [hy247]; exact H) | exact H
           have Ny247 := Aside0.mk hy247
           clear hy247
           simp only [Option.some.injEq, Prod.mk.injEq] at H
           obtain ⟨rfl, rfl⟩ := H
           have hnb50 := NB233_225.out
           have hnc50 := NB225_233.out
           have hnb51 := NB233_226.out
           have hnc51 := NB226_233.out
           have hcz52_0 : wc.cell? ⟨gb233, 0, none⟩ = some (u234000) := (blk_cell BK233.out 0).trans rfl
           have hcz52_1 : wc.cell? ⟨gb233, 1, none⟩ = some (u234001) := (blk_cell BK233.out 1).trans rfl
           have hfz52_0 := blk_frozen BK233.out 0
           have hfz52_1 := blk_frozen BK233.out 1
           obtain ⟨Ao53, co53, eo53⟩ := Kd.R_slice HO_234000.out
           subst eo53
           obtain ⟨Ao54, co54, eo54⟩ := Kd.S_slice HO_234001.out
           subst eo54
           try go_wp2_with (first | ((with_reducible refine gate_callee (f := 74) rfl ?_); refine zG (some 31) Try.func74 #[.agg #[.slice Ao53 x234000_1.length co53, .slice Ao54 x234001_1.length co54], .int .i64 x7_14, .int .i64 x6_1] ?_; (with_reducible refine (spec_l5Entry.calls kj14 _ _ x234000_1 _ _ x234001_1 x7_14 x6_1 t236 _ ?side1 ?side2 ?side3 ?side4 A42.out).mono ?_); (case side1 => repeat (first | exact (Kd.R_reads' HO_234000.out).2.2 | (with_reducible refine Kd.C_alloc ?_ _) | (with_reducible refine Kd.C_drewN ?_ _) | (with_reducible refine Kd.C_drew ?_))); (case side2 => exact (Kd.R_reads' HO_234000.out).2.1); (case side3 => repeat (first | exact (Kd.S_reads' HO_234001.out).2.2 | (with_reducible refine Kd.C_alloc ?_ _) | (with_reducible refine Kd.C_drewN ?_ _) | (with_reducible refine Kd.C_drew ?_))); (case side4 => exact (Kd.S_reads' HO_234001.out).2.1); rintro e w55 ⟨rfl, hb⟩; refine ⟨_, rfl, ?_⟩; have n0_ := Aside0.mk (Kd.R_below (by (with_reducible repeat (first | apply Kd.R_alloc | apply Kd.R_drewN | apply Kd.R_drew)); exact HO_234000.out) hb); have n1_ := Aside0.mk (Kd.S_below (by (with_reducible repeat (first | apply Kd.S_alloc | apply Kd.S_drewN | apply Kd.S_drew)); exact HO_234001.out) hb); have n2_ := Aside0.mk (blk_below (g := gb225) (o := .cells #[.slice A0_0 l0_0.length c0_0, .slice A0_1 l0_1.length c0_1] 28 (0, 0)) (by (with_reducible repeat (first | refine blk_drewN ?_ _ | refine blk_drew ?_ | refine blk_alloc ?_ _)); exact BK225.out) hb); have n3_ := Aside0.mk (blk_below (g := gb226) (o := .cells #[.slice none 0 0, .slice none 0 0] 28 (0, 0)) (by (with_reducible repeat (first | refine blk_drewN ?_ _ | refine blk_drew ?_ | refine blk_alloc ?_ _)); exact BK226.out) hb); have n4_ := Aside0.mk (blk_below (g := gb233) (o := .cells #[.slice Ao53 x234000_1.length co53, .slice Ao54 x234001_1.length co54] 28 (0, 0)) (by (with_reducible repeat (first | refine blk_drewN ?_ _ | refine blk_drew ?_ | refine blk_alloc ?_ _)); exact BK233.out) hb); have n5_ := Aside0.mk (below_step (by repeat (first | (with_reducible first | exact HB.out | apply below_alloc | apply pw_below_drewN | apply below_drew1 | refine below_set ?_ GE225.out | refine below_set ?_ GE226.out | refine below_set ?_ GE233.out) | exact HB.out)) hb); clear HO_234000; clear HO_234001; clear BK225; clear BK226; clear BK233; clear HB; have HO_234000 := n0_; have HO_234001 := n1_; have BK225 := n2_; have BK226 := n3_; have BK233 := n4_; have HB := n5_; clear n0_ n1_ n2_ n3_ n4_ n5_; (try clear hb); (try clear hb2); (try clear hk); (try clear hi); have hcz56_0 : w55.cell? ⟨gb233, 0, none⟩ = some (.slice Ao53 x234000_1.length co53) := (blk_cell BK233.out 0).trans rfl; have hcz56_1 : w55.cell? ⟨gb233, 1, none⟩ = some (.slice Ao54 x234001_1.length co54) := (blk_cell BK233.out 1).trans rfl; have hfz56_0 := blk_frozen BK233.out 0; have hfz56_1 := blk_frozen BK233.out 1) | ((with_reducible refine gate_dst (N := 41) rfl ?_); refine Kd.R_lit (Kd.int .i64) _ 3 ?hg (N := 41) ?hd (xs := ([] : List Int)) (inner := []) (ok := fun _ => True) (okp := fun _ => True) ?hr ?hp (fun _ hk => hk) trivial (Below.refl _ _) (Nat.le_refl _) (by simp) ?_; (case hd => rfl); (case hg => rfl); (case hr => first | (go_simp; done) | (go_simp; rfl)); (case hp => exact (Reps.none _ _)); intro v238 w57 ho58 hb hg_ hnew_; clear hg_ hnew_; (first | rw [← Ny237.out] at ho58 | (simp only [Int.reduceToNat] at ho58; rw [← Ny237.out] at ho58)); have n0_ := Aside0.mk (Kd.R_elder' (by (with_reducible repeat (first | apply Kd.R_alloc | apply Kd.R_drewN | apply Kd.R_drew)); exact HO_234000.out) (Kd.R_base ho58) hb); have n1_ := Aside0.mk (Kd.S_elder' (by (with_reducible repeat (first | apply Kd.S_alloc | apply Kd.S_drewN | apply Kd.S_drew)); exact HO_234001.out) (Kd.R_base ho58) hb); have n2_ := Aside0.mk (Kd.R_lower (Kd.R_new' ho58 (Kd.R_lt (by (with_reducible repeat (first | apply Kd.R_alloc | apply Kd.R_drewN | apply Kd.R_drew)); exact HO_234000.out))) (below_size (by repeat (first | (with_reducible first | exact HB.out | apply below_alloc | apply pw_below_drewN | apply below_drew1 | refine below_set ?_ GE225.out | refine below_set ?_ GE226.out | refine below_set ?_ GE233.out) | exact HB.out)))); have n3_ := Aside0.mk (blk_below (g := gb225) (o := .cells #[.slice A0_0 l0_0.length c0_0, .slice A0_1 l0_1.length c0_1] 28 (0, 0)) (by (with_reducible repeat (first | refine blk_drewN ?_ _ | refine blk_drew ?_ | refine blk_alloc ?_ _)); exact BK225.out) hb); have n4_ := Aside0.mk (blk_below (g := gb226) (o := .cells #[.slice none 0 0, .slice none 0 0] 28 (0, 0)) (by (with_reducible repeat (first | refine blk_drewN ?_ _ | refine blk_drew ?_ | refine blk_alloc ?_ _)); exact BK226.out) hb); have n5_ := Aside0.mk (blk_below (g := gb233) (o := .cells #[.slice Ao53 x234000_1.length co53, .slice Ao54 x234001_1.length co54] 28 (0, 0)) (by (with_reducible repeat (first | refine blk_drewN ?_ _ | refine blk_drew ?_ | refine blk_alloc ?_ _)); exact BK233.out) hb); have n6_ := Aside0.mk (below_step (by repeat (first | (with_reducible first | exact HB.out | apply below_alloc | apply pw_below_drewN | apply below_drew1 | refine below_set ?_ GE225.out | refine below_set ?_ GE226.out | refine below_set ?_ GE233.out) | exact HB.out)) hb); clear HO_234000; clear HO_234001; clear BK225; clear BK226; clear BK233; clear HB; have HO_234000 := n0_; have HO_234001 := n1_; have HO239 := n2_; have BK225 := n3_; have BK226 := n4_; have BK233 := n5_; have HB := n6_; clear n0_ n1_ n2_ n3_ n4_ n5_ n6_; clear hb ho58; obtain ⟨Ao60, co60, eo60⟩ := Kd.R_slice HO239.out; subst eo60) | ((with_reducible refine gate_builtin (b := .append) (xs := #[.tmp 40, .tmp 42]) rfl ?_); at_builtin; refine Kd.S_append (Kd.slice 3 (Kd.int .i64)) (w0 := w) w.heap.size rfl (.tmp 40) (.tmp 42) 23 22 (.slice none 0 0) 24 rfl Try.underlying23 info22 rfl (by decide) (by omega) (.slice Ao54 x234001_1.length co54) x234001_1 y237 [.slice Ao60 y237.length co60] (fun k_ => some k_ ≠ (.slice Ao53 x234000_1.length co53 : Value).ownBlock) (fun k_ => some k_ = (.slice Ao60 y237.length co60 : Value).ownBlock) rfl rfl ?aP (fun k_ hk_ => ((Kd.R_mono (ok' := fun k_ => ((fun k_ => some k_ ≠ (.slice Ao53 x234000_1.length co53 : Value).ownBlock)) k_ ∧ some k_ ≠ (.slice Ao54 x234001_1.length co54 : Value).ownBlock) (Kd.R_apart' (HO239.out) (Kd.S_typed HO_234001.out) (by decide)) (fun k_ hk => ⟨hk.1.2, hk.2⟩))).1 k_ hk_.symm) ?aF ?aO ?aB ?aS ?aL ?_; (case aP => exact Kd.M_row (Kd.R_mono (Kd.R_tight rfl (Kd.R_mono (ok' := fun k_ => ((fun k_ => some k_ ≠ (.slice Ao53 x234000_1.length co53 : Value).ownBlock)) k_ ∧ some k_ ≠ (.slice Ao54 x234001_1.length co54 : Value).ownBlock) (Kd.R_apart' (HO239.out) (Kd.S_typed HO_234001.out) (by decide)) (fun k_ hk => ⟨hk.1.2, hk.2⟩))) (fun _ h_ => h_))); (case aB => exact (by repeat (first | (with_reducible first | exact HB.out | apply below_alloc | apply pw_below_drewN | apply below_drew1 | refine below_set ?_ GE225.out | refine below_set ?_ GE226.out | refine below_set ?_ GE233.out) | exact HB.out))); (case aF => exact (fun k_ hk => Kd.fresh' (Kd.R_lt (by (with_reducible repeat (first | apply Kd.R_alloc | apply Kd.R_drewN | apply Kd.R_drew)); exact HO_234000.out)) k_ hk)); (case aO => exact (by (with_reducible repeat (first | apply Kd.S_alloc | apply Kd.S_drewN | apply Kd.S_drew)); exact Kd.S_mono HO_234001.out (fun k_ hk => ⟨hk.1, fun e_ => hk.2 e_⟩))); (case aS => exact (below_size (by repeat (first | (with_reducible first | exact HB.out | apply below_alloc | apply pw_below_drewN | apply below_drew1 | refine below_set ?_ GE225.out | refine below_set ?_ GE226.out | refine below_set ?_ GE233.out) | exact HB.out)))); (case aL => have := LMc45.out; omega); intro v241 w59 ho hb hg hat; rw [← Ny240.out] at ho; have n0_ := Aside0.mk (Kd.R_over' (by (with_reducible repeat (first | apply Kd.R_alloc | apply Kd.R_drewN | apply Kd.R_drew)); exact HO_234000.out) (Kd.S_typed (by (with_reducible repeat (first | apply Kd.S_alloc | apply Kd.S_drewN | apply Kd.S_drew)); exact HO_234001.out)) (by decide) hg); have n1_ := Aside0.mk (blk_grown (g := gb225) (o := .cells #[.slice A0_0 l0_0.length c0_0, .slice A0_1 l0_1.length c0_1] 28 (0, 0)) (by (with_reducible repeat (first | refine blk_drewN ?_ _ | refine blk_drew ?_ | refine blk_alloc ?_ _)); exact BK225.out) hg (Kd.S_ne HO_234001.out BK225.out (by decide))); have n2_ := Aside0.mk (blk_grown (g := gb226) (o := .cells #[.slice none 0 0, .slice none 0 0] 28 (0, 0)) (by (with_reducible repeat (first | refine blk_drewN ?_ _ | refine blk_drew ?_ | refine blk_alloc ?_ _)); exact BK226.out) hg (Kd.S_ne HO_234001.out BK226.out (by decide))); have n3_ := Aside0.mk (blk_grown (g := gb233) (o := .cells #[.slice Ao53 x234000_1.length co53, .slice Ao54 x234001_1.length co54] 28 (0, 0)) (by (with_reducible repeat (first | refine blk_drewN ?_ _ | refine blk_drew ?_ | refine blk_alloc ?_ _)); exact BK233.out) hg (Kd.S_ne HO_234001.out BK233.out (by decide))); have n4_ := Aside0.mk (hb); have n5_ := Aside0.mk (ho); clear HO_234000; clear BK225; clear BK226; clear BK233; clear HB; clear HO_234001; clear HO239; have HO_234000 := n0_; have BK225 := n1_; have BK226 := n2_; have BK233 := n3_; have HB := n4_; have HO242 := n5_; clear n0_ n1_ n2_ n3_ n4_ n5_; clear ho hb hg hat; obtain ⟨Ao61, co61, eo61⟩ := Kd.S_slice HO242.out; subst eo61; have hcz62_0 : w59.cell? ⟨gb233, 0, none⟩ = some (.slice Ao53 x234000_1.length co53) := (blk_cell BK233.out 0).trans rfl; have hcz62_1 : w59.cell? ⟨gb233, 1, none⟩ = some (.slice Ao54 x234001_1.length co54) := (blk_cell BK233.out 1).trans rfl; have hfz62_0 := blk_frozen BK233.out 0; have hfz62_1 := blk_frozen BK233.out 1))
           have n0_ : Aside0 (Kd.R (Kd.int .i64) 3 (w59.setCell ⟨gb233, 1, none⟩ (.slice Ao61 y240.length co61)) w.heap.size (fun _ => True) (.slice Ao53 x234000_1.length co53) x234000_1) := ⟨by (with_reducible repeat (first | apply Kd.R_alloc | apply Kd.R_drewN | apply Kd.R_drew)); exact Kd.R_mono (Kd.R_far (p := ⟨gb233, 1, none⟩) (Kd.R_types HO_234000.out BK233.out (by decide)) (fun _ hk => hk.2) (.slice Ao61 y240.length co61)) (fun _ hk => trivial)⟩
           have n1_ : Aside0 (Kd.S (Kd.slice 3 (Kd.int .i64)) 22 (w59.setCell ⟨gb233, 1, none⟩ (.slice Ao61 y240.length co61)) w.heap.size (fun k_ => some k_ ≠ (.slice Ao53 x234000_1.length co53 : Value).ownBlock) (.slice Ao61 y240.length co61) y240) := ⟨by (with_reducible repeat (first | apply Kd.S_alloc | apply Kd.S_drewN | apply Kd.S_drew)); exact Kd.S_mono (Kd.S_far (p := ⟨gb233, 1, none⟩) (Kd.S_types HO242.out BK233.out (by decide)) (fun _ hk => hk.2) (.slice Ao61 y240.length co61)) (fun _ hk => hk.1)⟩
           have n2_ : Aside0 ((w59.setCell ⟨gb233, 1, none⟩ (.slice Ao61 y240.length co61)).heap[gb225]? = some (.cells #[.slice A0_0 l0_0.length c0_0, .slice A0_1 l0_1.length c0_1] 28 (0, 0))) := ⟨by (with_reducible repeat (first | refine blk_drewN ?_ _ | refine blk_drew ?_ | refine blk_alloc ?_ _)); refine blk_far ?_ NB225_233.out _; (with_reducible repeat (first | refine blk_drewN ?_ _ | refine blk_drew ?_ | refine blk_alloc ?_ _)); exact BK225.out⟩
           have n3_ : Aside0 ((w59.setCell ⟨gb233, 1, none⟩ (.slice Ao61 y240.length co61)).heap[gb226]? = some (.cells #[.slice none 0 0, .slice none 0 0] 28 (0, 0))) := ⟨by (with_reducible repeat (first | refine blk_drewN ?_ _ | refine blk_drew ?_ | refine blk_alloc ?_ _)); refine blk_far ?_ NB226_233.out _; (with_reducible repeat (first | refine blk_drewN ?_ _ | refine blk_drew ?_ | refine blk_alloc ?_ _)); exact BK226.out⟩
           have n4_ : Aside0 ((w59.setCell ⟨gb233, 1, none⟩ (.slice Ao61 y240.length co61)).heap[gb233]? = some (.cells #[.slice Ao53 x234000_1.length co53, .slice Ao61 y240.length co61] 28 (0, 0))) := ⟨by (with_reducible repeat (first | refine blk_drewN ?_ _ | refine blk_drew ?_ | refine blk_alloc ?_ _)); refine blk_put (cs := #[.slice Ao53 x234000_1.length co53, .slice Ao54 x234001_1.length co54]) ?_ 1 _ rfl; (with_reducible repeat (first | refine blk_drewN ?_ _ | refine blk_drew ?_ | refine blk_alloc ?_ _)); exact BK233.out⟩
           have n5_ : Aside0 (Below w.heap.size w (w59.setCell ⟨gb233, 1, none⟩ (.slice Ao61 y240.length co61))) := ⟨by repeat (first | (with_reducible first | exact HB.out | apply below_alloc | apply pw_below_drewN | apply below_drew1 | refine below_set ?_ GE225.out | refine below_set ?_ GE226.out | refine below_set ?_ GE233.out) | exact HB.out)⟩
           (try clear HO_234000)
           (try clear HO242)
           (try clear BK225)
           (try clear BK226)
           (try clear BK233)
           (try clear HB)
           generalize (w59.setCell ⟨gb233, 1, none⟩ (.slice Ao61 y240.length co61)) = w63 at n0_ n1_ n2_ n3_ n4_ n5_ ⊢
           have HO_234000 := n0_
           have HO242 := n1_
           have BK225 := n2_
           have BK226 := n3_
           have BK233 := n4_
           have HB := n5_
           clear n0_ n1_ n2_ n3_ n4_ n5_
           have n0_ := Aside0.mk (Kd.R_drew HO_234000.out)
           have n1_ := Aside0.mk (Kd.S_drew HO242.out)
           have n2_ := Aside0.mk (blk_drew BK225.out)
           have n3_ := Aside0.mk (blk_drew BK226.out)
           have n4_ := Aside0.mk (blk_drew BK233.out)
           have n5_ := Aside0.mk (below_drew1 HB.out)
           clear HO_234000
           clear HO242
           clear BK225
           clear BK226
           clear BK233
           clear HB
           have HO_234000 := n0_
           have HO242 := n1_
           have BK225 := n2_
           have BK226 := n3_
           have BK233 := n4_
           have HB := n5_
           clear n0_ n1_ n2_ n3_ n4_ n5_
           have p243 : 0 ≤ (x7_14 : Int) := of_decide_eq_true (by first | (with_reducible assumption) | assumption)
           have q243 : x7_14 < (y240.length : Int) := of_decide_eq_true (by first | (with_reducible assumption) | assumption)
           obtain ⟨ad243, A243_0, c243_0, e243, hx243_0, hl243_0, hi243_0⟩ := at_L1 (Kd.S_reads' HO242.out).2.2 x7_14 p243 q243
           cases e243
           obtain ⟨ce243, hce243, hMe243, hcc243⟩ := Kd.S_get HO242.out [] x7_14 p243 (by first | exact q243 | exact of_decide_eq_true (by first | (with_reducible assumption) | assumption) | (have e_ := (Kd.S_reads' HO242.out).1; omega))
           obtain ⟨ve243_0, rfl, ge243_0⟩ := hMe243
           have hv243_0 := hcc243 0 _ rfl
           rw [Nat.add_zero, show ((Kd.slice 3 (Kd.int .i64))).sz = 1 from rfl, Nat.mul_one] at hv243_0
           replace hv243_0 := Option.some.inj (hv243_0.symm.trans hx243_0)
           rw [hv243_0] at ge243_0
           have HL243_0 := Aside0.mk (show Kd.R (Kd.int .i64) 3 _ _ _ _ (rd_L1 y240 x7_14) from ge243_0)
           clear hv243_0 ge243_0
           have HX243_0 := Aside0.mk hx243_0
           clear hcc243 hce243
           have HR243_0 := Aside0.mk hi243_0
           have HC243_0 := Aside0.mk hl243_0
           clear hi243_0 hl243_0
           replace p243 := eq_true p243
           replace q243 := eq_true q243
           obtain ⟨go65, co65, eo65, gb65, gl65, cl65, HG65⟩ := Kd.S_form HO242.out (by have h_ : (x7_14 : Int) < ((y240.length : Int) : Int) := of_decide_eq_true (by first | (with_reducible assumption) | assumption); have h2_ : 0 ≤ (x7_14 : Int) := (of_decide_eq_true (by first | (with_reducible assumption) | assumption)); omega)
           (first | cases eo65 | (injection eo65 with ea_ en_ ec_; (first | subst ea_ | (injection ea_ with ea_; subst ea_)); subst ec_; clear en_))
           have GB65 := Aside0.mk gb65
           have GG65 := Aside0.mk HG65
           clear gb65 gl65 HG65
           (first | simp only [add_plain] at hx243_0 | skip)
           obtain ⟨oki65, ce65, hcl65, hM65, hcc65, _, _, hH65⟩ := Kd.S_elem HO242.out [] (x7_14 : Int) (of_decide_eq_true (by first | (with_reducible assumption) | assumption)) (by have h_ : (x7_14 : Int) < ((y240.length : Int) : Int) := of_decide_eq_true (by first | (with_reducible assumption) | assumption); first | exact h_ | (have e_ := (Kd.S_reads' HO242.out).1; omega) | simpa using h_)
           obtain ⟨ve65_0, rfl, ge65_0⟩ := hM65
           have hv65 := hcc65 0 _ rfl
           have hX65 := HX243_0.out
           (try simp only [add_plain] at hX65)
           (try simp only [Nat.add_zero] at hv65)
           (try rw [show ((Kd.slice 3 (Kd.int .i64))).sz = 1 from rfl, Nat.mul_one] at hv65)
           replace hv65 := Option.some.inj (hv65.symm.trans hX65)
           subst hv65
           clear hX65 hcc65 hcl65
           have UU65 := Aside0.mk (show Kd.R (Kd.int .i64) 3 _ w.heap.size oki65 (.slice A243_0 (rd_L1 y240 x7_14).length c243_0) (rd_L1 y240 x7_14) from ge65_0)
           have HH65 := Aside0.mk hH65
           have HN65 := Aside0.mk (Kd.S_reads' HO242.out).1
           clear hH65 ge65_0
           refine start_ (n := 13) (S := fun w' => w'.cell? ⟨gb233, 0, none⟩ = some (.slice Ao53 x234000_1.length co53) ∧ w'.cell? ⟨gb233, 1, none⟩ = some (.slice (some ⟨go65, 0, none⟩) y240.length co61) ∧ w'.cell? ⟨go65, (x7_14).toNat, none⟩ = some (.slice A243_0 (rd_L1 y240 x7_14).length c243_0)) (ds := [12]) zB7_0 (by kernel_rfl) rfl rfl ⟨(blk_cell BK233.out 0).trans rfl, (blk_cell BK233.out 1).trans rfl, hx243_0⟩ (fun hHeld => ?_); refine with_tabW spec_l17Column.tab11 spec_l17Column.bits11 (fun HT_ HW_ => ?_)
           generalize w63.drew = w64 at HO_234000 HO242 BK225 BK226 BK233 HB GG65 HH65 HL243_0 HR243_0 HX243_0 UU65 hx243_0 hHeld ⊢
           refine zP (i := 0) (N := some 45) zB7_1 (any_of HT_.out (by kernel_rfl)) ?_
           refine zP (i := 2) (N := some 47) zB7_2 (any_of HT_.out (by kernel_rfl)) ?_
           refine zP (i := 3) (N := some 48) zB7_3 (any_of HT_.out (by kernel_rfl)) ?_
           refine zP (i := 5) (N := some 50) zB7_4 (any_of HT_.out (by kernel_rfl)) ?_
           refine zP (i := 8) (N := some 53) zB7_5 (any_of HT_.out (by kernel_rfl)) ?_
           refine zT3 (i := 1) (N := some 46) zB7_6 (take_ofW HT_.out HW_.out (by kernel_rfl)) hHeld ?_
           refine zT3 (i := 4) (N := some 49) zB7_7 (take_ofW HT_.out HW_.out (by kernel_rfl)) hHeld ?_
           refine zP (i := 6) (N := some 51) zB7_8 (any_of HT_.out (by kernel_rfl)) ?_
           refine zT3 (i := 7) (N := some 52) zB7_9 (take_ofW HT_.out HW_.out (by kernel_rfl)) hHeld ?_
           refine one_ (i := 9) (N := some 54) zB7_10 rfl rfl (one_of HT_.out (by kernel_rfl)) (by decide) (fun K hK => ?_)
           refine value_ (w1 := ?_) (v := ?_) (by rfl) rfl ?_ ?_
           rotate_left 2
           ·go_simp
            constructor
            ·rfl
            ·rfl
           refine hK.out _ _ ⟨(blk_cell (blk_alloc BK233.out _) 0).trans rfl, (blk_cell (blk_alloc BK233.out _) 1).trans rfl, (World.cell?_alloc_lt _ _ _ (World.block_lt_of_cell? _ _ (hHeld.2.2))).trans (hHeld.2.2)⟩ (fun hHeld => ?_)
           clear hK K
           refine norm_ (a' := ?_) ?_ ?_
           rotate_left
           ·show Act.put _ (some 54) _ = _
            simp only [Act.put, List.setIfInBounds_toArray, List.set_cons_zero, List.set_cons_succ, i64_w, i32_w]
            rfl
           refine one_ (i := 10) (N := some 55) zB7_11 rfl rfl (one_of HT_.out (by kernel_rfl)) (by decide) (fun K hK => ?_)
           refine Kd.R_append_step (Kd.int .i64) (w0 := w) w.heap.size (by rfl) (.tmp 52) (.tmp 54) 22 3 (.int .i64 0) 8 rfl Try.underlying22 info3 rfl (by decide) (by omega) (.slice A243_0 (rd_L1 y240 x7_14).length c243_0) (rd_L1 y240 x7_14) x1_1 [.int .i64 x1_1] (fun k_ => oki65 k_ ∨ ((fun k_ => some k_ ≠ (.slice Ao53 x234000_1.length co53 : Value).ownBlock)) k_ ∧ w64.heap.size ≤ k_) (fun _ => False) rfl rfl ?aP (fun _ hk => hk.elim) ?aF ?aO ?aB ?aS ?aL ?_
           (case aP => exact rfl)
           (case aB => exact (by repeat (first | (with_reducible first | exact HB.out | apply below_alloc | apply pw_below_drewN | apply below_drew1 | refine below_set ?_ GE225.out | refine below_set ?_ GE226.out | refine below_set ?_ GE233.out) | exact HB.out)))
           (case aF => exact (fun k_ hk => .inr ⟨Kd.fresh' (Kd.R_lt (by (with_reducible repeat (first | apply Kd.R_alloc | apply Kd.R_drewN | apply Kd.R_drew)); exact HO_234000.out)) k_ hk, hk⟩))
           (case aO => exact (by (with_reducible repeat (first | apply Kd.R_alloc | apply Kd.R_drewN | apply Kd.R_drew)); exact Kd.R_mono UU65.out (fun _ hk => .inl hk)))
           (case aS => exact (below_size (by repeat (first | (with_reducible first | exact HB.out | apply below_alloc | apply pw_below_drewN | apply below_drew1 | refine below_set ?_ GE225.out | refine below_set ?_ GE226.out | refine below_set ?_ GE233.out) | exact HB.out))))
           (case aL => have := LMc48.out; omega)
           intro v245 w66 ho hb hg hat
           (first | have HS2_ := cell_grown hg (hHeld.2.2) (by first | (rw [add_block]; exact (fun e_ => ((HL243_0.out.1 _ e_.symm).2) rfl)) | (show some (Addr.add _ _).block ≠ _; rw [add_block]; exact (fun e_ => ((HL243_0.out.1 _ e_.symm).2) rfl)) | exact (fun e_ => ((HL243_0.out.1 _ e_.symm).2) rfl)) | have HS2_ := cell_grown hg (cell_unalloc (hHeld.2.2) (by first | (rw [add_block]; exact Kd.S_lt HO242.out _ rfl) | (show (Addr.add _ _).block < _; rw [add_block]; exact Kd.S_lt HO242.out _ rfl) | exact Kd.S_lt HO242.out _ rfl)) (by first | (rw [add_block]; exact (fun e_ => ((HL243_0.out.1 _ e_.symm).2) rfl)) | (show some (Addr.add _ _).block ≠ _; rw [add_block]; exact (fun e_ => ((HL243_0.out.1 _ e_.symm).2) rfl)) | exact (fun e_ => ((HL243_0.out.1 _ e_.symm).2) rfl)))
           rw [← Ny244.out] at ho
           have n0_ := Aside0.mk (Kd.R_grown2 (by (with_reducible repeat (first | apply Kd.R_alloc | apply Kd.R_drewN | apply Kd.R_drew)); exact HO_234000.out) rfl hg (fun k_ e_ => (HL243_0.out.1 k_ e_).1))
           have n1_ := Aside0.mk (blk_grown (g := gb225) (o := .cells #[.slice A0_0 l0_0.length c0_0, .slice A0_1 l0_1.length c0_1] 28 (0, 0)) (by (with_reducible repeat (first | refine blk_drewN ?_ _ | refine blk_drew ?_ | refine blk_alloc ?_ _)); exact BK225.out) hg (Kd.R_ne HL243_0.out BK225.out (by decide)))
           have n2_ := Aside0.mk (blk_grown (g := gb226) (o := .cells #[.slice none 0 0, .slice none 0 0] 28 (0, 0)) (by (with_reducible repeat (first | refine blk_drewN ?_ _ | refine blk_drew ?_ | refine blk_alloc ?_ _)); exact BK226.out) hg (Kd.R_ne HL243_0.out BK226.out (by decide)))
           have n3_ := Aside0.mk (blk_grown (g := gb233) (o := .cells #[.slice Ao53 x234000_1.length co53, .slice (some ⟨go65, 0, none⟩) y240.length co61] 28 (0, 0)) (by (with_reducible repeat (first | refine blk_drewN ?_ _ | refine blk_drew ?_ | refine blk_alloc ?_ _)); exact BK233.out) hg (Kd.R_ne HL243_0.out BK233.out (by decide)))
           have n4_ := Aside0.mk (hb)
           have n5_ := Aside0.mk (Kd.H_grown (Kd.H_widen (by repeat (first | exact HH65.out | refine Kd.H_alloc ?_ _ | refine Kd.H_drewN ?_ _ | refine Kd.H_drew ?_))) hg (fun k_ e_ => .inl (UU65.out.1 k_ e_)))
           have n6_ := Aside0.mk (ho)
           clear HO_234000
           clear BK225
           clear BK226
           clear BK233
           clear HB
           clear HH65
           clear HO242
           clear UU65
           clear HL243_0
           have HO_234000 := n0_
           have BK225 := n1_
           have BK226 := n2_
           have BK233 := n3_
           have HB := n4_
           have HH65 := n5_
           have HO246 := n6_
           clear n0_ n1_ n2_ n3_ n4_ n5_ n6_
           clear ho hb hg hat
           have p49 : 0 ≤ (x7_14 : Int) := of_decide_eq_true (by first | (with_reducible assumption) | assumption)
           have q49 : (x7_14 : Int) < ((y240.length : Int) : Int) := of_decide_eq_true (by first | (with_reducible assumption) | assumption)
           replace p49 := eq_true p49
           replace q49 := eq_true q49
           obtain ⟨Ao69, co69, eo69⟩ := Kd.R_slice HO246.out
           (first | subst eo69 | (injection eo69 with f1_ f2_ f3_; have f4_ := f1_.symm; have f5_ := f3_.symm; clear f1_ f2_ f3_; subst f4_; subst f5_))
           obtain ⟨_, _, hraw67, _, _, hcc67, _⟩ := Kd.H_raw HH65.out (of_decide_eq_true (by first | (with_reducible assumption) | assumption)) (by have h_ : (x7_14 : Int) < ((y240.length : Int) : Int) := of_decide_eq_true (by first | (with_reducible assumption) | assumption); first | exact h_ | (have e_ := (HN65.out); omega) | simpa using h_)
           obtain ⟨_, hfr67⟩ := Kd.H_at HH65.out (of_decide_eq_true (by first | (with_reducible assumption) | assumption)) (by have h_ : (x7_14 : Int) < ((y240.length : Int) : Int) := of_decide_eq_true (by first | (with_reducible assumption) | assumption); first | exact h_ | (have e_ := (HN65.out); omega) | simpa using h_)
           have hx67_0 := hcc67 0 _ rfl
           have hf67_0 := hfr67 0
           (try simp only [Nat.add_zero] at hx67_0 hf67_0)
           (try rw [show ((Kd.slice 3 (Kd.int .i64))).sz = 1 from rfl, Nat.mul_one] at hx67_0)
           (try rw [show ((Kd.slice 3 (Kd.int .i64))).sz = 1 from rfl, Nat.mul_one] at hf67_0)
           have HP67 := Kd.S_seg0 HH65.out (of_decide_eq_true (by first | (with_reducible assumption) | assumption)) (by have h_ : (x7_14 : Int) < ((y240.length : Int) : Int) := of_decide_eq_true (by first | (with_reducible assumption) | assumption); first | exact h_ | (have e_ := (HN65.out); omega) | simpa using h_) (seg := [.slice Ao69 y244.length co69]) (j := 0) (show 1 ≤ 1 from by decide) (x' := y244) (Kd.M_row HO246.out) (fun _ hk => hk)
           (try simp only [show ((Kd.slice 3 (Kd.int .i64))).sz = 1 from rfl, Nat.mul_one, Nat.add_zero] at HP67)
           clear hcc67 hfr67
           have HNB225_go65 := Aside0.mk (show gb225 ≠ go65 from by have h_ := Kd.R_ne hraw67 BK225.out (by decide); intro e_; exact h_ (by rw [e_]; rfl))
           have HNB226_go65 := Aside0.mk (show gb226 ≠ go65 from by have h_ := Kd.R_ne hraw67 BK226.out (by decide); intro e_; exact h_ (by rw [e_]; rfl))
           have HNB233_go65 := Aside0.mk (show gb233 ≠ go65 from by have h_ := Kd.R_ne hraw67 BK233.out (by decide); intro e_; exact h_ (by rw [e_]; rfl))
           have HS67 := HP67.1
           rw [← Ny247.out] at HS67
           have HQ67 := Aside0.mk HS67
           obtain ⟨_, hgg67⟩ := Kd.R_typed hraw67 go65 rfl
           have GG67_ := Aside0.mk hgg67
           clear HP67 HS67 hgg67
           refine hK.out _ _ ⟨(blk_cell BK233.out 0).trans rfl, (blk_cell BK233.out 1).trans rfl, HS2_⟩ (fun hHeld => ?_)
           clear hK K
           refine norm_ (a' := ?_) ?_ ?_
           rotate_left
           ·show Act.put _ (some 55) _ = _
            simp only [Act.put, List.setIfInBounds_toArray, List.set_cons_zero, List.set_cons_succ, i64_w, i32_w]
            rfl
           refine zP (i := 11) (N := some 56) zB7_12 (any_of HT_.out (by kernel_rfl)) ?_
           refine last_ (i := 12) (N := none) zB7_13 rfl rfl (one_of HT_.out (by kernel_rfl)) (by decide) (fun K hK => ?_)
           refine skip_ (w1 := ?_) (by rfl) rfl ?_ ?_
           rotate_left
           ·go_simp
            rfl
           refine hK.out _ _ ?_
           clear hK K
           refine done_ (done_of HT_.out (by kernel_rfl)) ?_
           have n0_ : Aside0 (Kd.R (Kd.int .i64) 3 (w66.setCell ⟨go65, (x7_14 : Int).toNat, none⟩ (.slice Ao69 y244.length co69)) w.heap.size (fun _ => True) (.slice Ao53 x234000_1.length co53) x234000_1) := ⟨by (with_reducible repeat (first | apply Kd.R_alloc | apply Kd.R_drewN | apply Kd.R_drew)); exact Kd.R_mono (Kd.R_far (p := ⟨go65, (x7_14 : Int).toNat, none⟩) (Kd.R_types HO_234000.out GG67_.out (by decide)) (fun _ hk => hk.2) (.slice Ao69 y244.length co69)) (fun _ hk => trivial)⟩
           have n1_ : Aside0 (Kd.S (Kd.slice 3 (Kd.int .i64)) 22 (w66.setCell ⟨go65, (x7_14 : Int).toNat, none⟩ (.slice Ao69 y244.length co69)) w.heap.size (fun k_ => some k_ ≠ (.slice Ao53 x234000_1.length co53 : Value).ownBlock) (.slice (some ⟨go65, 0, none⟩) y240.length co61) y247) := ⟨by (with_reducible repeat (first | apply Kd.S_alloc | apply Kd.S_drewN | apply Kd.S_drew)); exact HQ67.out⟩
           have n2_ : Aside0 ((w66.setCell ⟨go65, (x7_14 : Int).toNat, none⟩ (.slice Ao69 y244.length co69)).heap[gb225]? = some (.cells #[.slice A0_0 l0_0.length c0_0, .slice A0_1 l0_1.length c0_1] 28 (0, 0))) := ⟨by (with_reducible repeat (first | refine blk_drewN ?_ _ | refine blk_drew ?_ | refine blk_alloc ?_ _)); refine blk_far ?_ HNB225_go65.out _; (with_reducible repeat (first | refine blk_drewN ?_ _ | refine blk_drew ?_ | refine blk_alloc ?_ _)); exact BK225.out⟩
           have n3_ : Aside0 ((w66.setCell ⟨go65, (x7_14 : Int).toNat, none⟩ (.slice Ao69 y244.length co69)).heap[gb226]? = some (.cells #[.slice none 0 0, .slice none 0 0] 28 (0, 0))) := ⟨by (with_reducible repeat (first | refine blk_drewN ?_ _ | refine blk_drew ?_ | refine blk_alloc ?_ _)); refine blk_far ?_ HNB226_go65.out _; (with_reducible repeat (first | refine blk_drewN ?_ _ | refine blk_drew ?_ | refine blk_alloc ?_ _)); exact BK226.out⟩
           have n4_ : Aside0 ((w66.setCell ⟨go65, (x7_14 : Int).toNat, none⟩ (.slice Ao69 y244.length co69)).heap[gb233]? = some (.cells #[.slice Ao53 x234000_1.length co53, .slice (some ⟨go65, 0, none⟩) y240.length co61] 28 (0, 0))) := ⟨by (with_reducible repeat (first | refine blk_drewN ?_ _ | refine blk_drew ?_ | refine blk_alloc ?_ _)); refine blk_far ?_ HNB233_go65.out _; (with_reducible repeat (first | refine blk_drewN ?_ _ | refine blk_drew ?_ | refine blk_alloc ?_ _)); exact BK233.out⟩
           have n5_ : Aside0 (Below w.heap.size w (w66.setCell ⟨go65, (x7_14 : Int).toNat, none⟩ (.slice Ao69 y244.length co69))) := ⟨by repeat (first | (with_reducible first | exact HB.out | apply below_alloc | apply pw_below_drewN | apply below_drew1 | refine below_set ?_ GB65.out | refine below_set ?_ GE225.out | refine below_set ?_ GE226.out | refine below_set ?_ GE233.out) | exact HB.out)⟩
           (try clear HO_234000)
           (try clear HO242)
           (try clear BK225)
           (try clear BK226)
           (try clear BK233)
           (try clear HB)
           generalize (w66.setCell ⟨go65, (x7_14 : Int).toNat, none⟩ (.slice Ao69 y244.length co69)) = w70 at n0_ n1_ n2_ n3_ n4_ n5_ ⊢
           have HO_234000 := n0_
           have HO242 := n1_
           have BK225 := n2_
           have BK226 := n3_
           have BK233 := n4_
           have HB := n5_
           clear n0_ n1_ n2_ n3_ n4_ n5_
           have hcz71_0 : w70.cell? ⟨gb233, 0, none⟩ = some (.slice Ao53 x234000_1.length co53) := (blk_cell BK233.out 0).trans rfl
           have hcz71_1 : w70.cell? ⟨gb233, 1, none⟩ = some (.slice (some ⟨go65, 0, none⟩) y240.length co61) := (blk_cell BK233.out 1).trans rfl
           have hfz71_0 := blk_frozen BK233.out 0
           have hfz71_1 := blk_frozen BK233.out 1
           have hnb72 := NB226_225.out
           have hnc72 := NB225_226.out
           have hcz73_0 : w70.cell? ⟨gb226, 0, none⟩ = some (.slice none 0 0) := (blk_cell BK226.out 0).trans rfl
           have hcz73_1 : w70.cell? ⟨gb226, 1, none⟩ = some (.slice none 0 0) := (blk_cell BK226.out 1).trans rfl
           have hfz73_0 := blk_frozen BK226.out 0
           have hfz73_1 := blk_frozen BK226.out 1
           try go_wp2
           refine bodyPost_ret (results_cell_row rfl _ _ gb226 28 #[.slice Ao53 x234000_1.length co53, .slice (some ⟨go65, 0, none⟩) y240.length co61] (0, 0) _ rfl (by (with_reducible repeat (first | refine blk_drewN ?_ _ | refine blk_drew ?_ | refine blk_alloc ?_ _)); refine blk_put (cs := #[.slice Ao53 x234000_1.length co53, .slice none 0 0]) ?_ 1 _ rfl; (with_reducible repeat (first | refine blk_drewN ?_ _ | refine blk_drew ?_ | refine blk_alloc ?_ _)); refine blk_put (cs := #[.slice none 0 0, .slice none 0 0]) ?_ 0 _ rfl; (with_reducible repeat (first | refine blk_drewN ?_ _ | refine blk_drew ?_ | refine blk_alloc ?_ _)); exact BK226.out) Try.underlying28 rfl (by kernel_rfl)) rfl ?_
           exact ⟨_, _, by first | rfl | (simp [errW_none, errW_some] <;> rfl) | (simp [*, errW_none, errW_some] <;> rfl), by (with_reducible repeat (first | apply Kd.R_alloc | apply Kd.R_drewN | apply Kd.R_drew)); exact Kd.R_mono (Kd.R_far (p := ⟨gb226, 1, none⟩) (Kd.R_far (p := ⟨gb226, 0, none⟩) (Kd.R_types HO_234000.out BK226.out (by decide)) (fun _ hk => hk.2) (.slice Ao53 x234000_1.length co53)) (fun _ hk => hk.2) (.slice (some ⟨go65, 0, none⟩) y240.length co61)) (fun _ hk => trivial), by (with_reducible repeat (first | apply Kd.S_alloc | apply Kd.S_drewN | apply Kd.S_drew)); exact Kd.S_mono (Kd.S_far (p := ⟨gb226, 1, none⟩) (Kd.S_far (p := ⟨gb226, 0, none⟩) (Kd.S_types HO242.out BK226.out (by decide)) (fun _ hk => hk.2) (.slice Ao53 x234000_1.length co53)) (fun _ hk => hk.2) (.slice (some ⟨go65, 0, none⟩) y240.length co61)) (fun _ hk => hk.1), by repeat (first | (with_reducible first | exact HB.out | apply below_alloc | apply pw_below_drewN | apply below_drew1 | refine below_set ?_ GE225.out | refine below_set ?_ GE226.out | refine below_set ?_ GE233.out) | exact HB.out)⟩
          ·rw [if_neg c48] at H
           exact absurd H (by simp)
         ·rw [if_neg c47] at H
          exact absurd H (by simp)
        ·rw [if_neg c46] at H
         exact absurd H (by simp)
       ·rw [if_neg c45] at H
        exact absurd H (by simp)
      ·rw [if_neg c44] at H
       have c44b0 : (x7_14 == (x234001_1.length : Int)) = false := beq_eq_false_iff_ne.mpr c44
       have c44b1 : (x7_14 != (x234001_1.length : Int)) = true := bne_iff_ne.mpr c44
       by_cases c74 : 0 ≤ x7_14
       ·rw [if_pos c74] at H
        have c74b0 : decide (0 ≤ x7_14) = true := decide_eq_true c74
        clear c74
        by_cases c75 : x7_14 < (x234001_1.length : Int)
        ·rw [if_pos c75] at H
         have c75b0 : decide (x7_14 < (x234001_1.length : Int)) = true := decide_eq_true c75
         clear c75
         by_cases c76 : (rd_L1 x234001_1 x7_14).length < 17592186044416
         ·rw [if_pos c76] at H
          have LMc76 := Aside0.mk c76
          clear c76
          obtain ⟨y249, hy249⟩ : ∃ y_ : List Int, y_ = ((rd_L1 x234001_1 x7_14) ++ [x1_1]) := ⟨_, rfl⟩
          replace H : (some (x234000_1, (x234001_1.set (x7_14 : Int).toNat y249))) = some (r1, r2) := by first | (rw [hy249]; with_reducible exact H) | (have H2_ := (Option.bind_some _ _).symm.trans H; rw [hy249]; with_reducible exact H2_) | (have H2_ := (Option.bind_some _ _).symm.trans H; with_reducible exact H2_) | with_reducible exact H | (rw [hy249]; exact H) | exact H
          have Ny249 := Aside0.mk hy249
          clear hy249
          obtain ⟨y252, hy252⟩ : ∃ y_ : List (List Int), y_ = (x234001_1.set (x7_14 : Int).toNat y249) := ⟨_, rfl⟩
          replace H : (some (x234000_1, y252)) = some (r1, r2) := by first | (rw [hy252]; with_reducible exact H) | (have H2_ := (Option.bind_some _ _).symm.trans H; rw [hy252]; with_reducible exact H2_) | (have H2_ := (Option.bind_some _ _).symm.trans H; with_reducible exact H2_) | with_reducible exact H | (rw [hy252]; exact H) | exact H
          have Ny252 := Aside0.mk hy252
          clear hy252
          simp only [Option.some.injEq, Prod.mk.injEq] at H
          obtain ⟨rfl, rfl⟩ := H
          have hnb78 := NB233_225.out
          have hnc78 := NB225_233.out
          have hnb79 := NB233_226.out
          have hnc79 := NB226_233.out
          have hcz80_0 : wc.cell? ⟨gb233, 0, none⟩ = some (u234000) := (blk_cell BK233.out 0).trans rfl
          have hcz80_1 : wc.cell? ⟨gb233, 1, none⟩ = some (u234001) := (blk_cell BK233.out 1).trans rfl
          have hfz80_0 := blk_frozen BK233.out 0
          have hfz80_1 := blk_frozen BK233.out 1
          obtain ⟨Ao81, co81, eo81⟩ := Kd.R_slice HO_234000.out
          subst eo81
          obtain ⟨Ao82, co82, eo82⟩ := Kd.S_slice HO_234001.out
          subst eo82
          try go_wp2_with (first | ((with_reducible refine gate_callee (f := 74) rfl ?_); refine zG (some 31) Try.func74 #[.agg #[.slice Ao81 x234000_1.length co81, .slice Ao82 x234001_1.length co82], .int .i64 x7_14, .int .i64 x6_1] ?_; (with_reducible refine (spec_l5Entry.calls kj14 _ _ x234000_1 _ _ x234001_1 x7_14 x6_1 t236 _ ?side1 ?side2 ?side3 ?side4 A42.out).mono ?_); (case side1 => repeat (first | exact (Kd.R_reads' HO_234000.out).2.2 | (with_reducible refine Kd.C_alloc ?_ _) | (with_reducible refine Kd.C_drewN ?_ _) | (with_reducible refine Kd.C_drew ?_))); (case side2 => exact (Kd.R_reads' HO_234000.out).2.1); (case side3 => repeat (first | exact (Kd.S_reads' HO_234001.out).2.2 | (with_reducible refine Kd.C_alloc ?_ _) | (with_reducible refine Kd.C_drewN ?_ _) | (with_reducible refine Kd.C_drew ?_))); (case side4 => exact (Kd.S_reads' HO_234001.out).2.1); rintro e w83 ⟨rfl, hb⟩; refine ⟨_, rfl, ?_⟩; have n0_ := Aside0.mk (Kd.R_below (by (with_reducible repeat (first | apply Kd.R_alloc | apply Kd.R_drewN | apply Kd.R_drew)); exact HO_234000.out) hb); have n1_ := Aside0.mk (Kd.S_below (by (with_reducible repeat (first | apply Kd.S_alloc | apply Kd.S_drewN | apply Kd.S_drew)); exact HO_234001.out) hb); have n2_ := Aside0.mk (blk_below (g := gb225) (o := .cells #[.slice A0_0 l0_0.length c0_0, .slice A0_1 l0_1.length c0_1] 28 (0, 0)) (by (with_reducible repeat (first | refine blk_drewN ?_ _ | refine blk_drew ?_ | refine blk_alloc ?_ _)); exact BK225.out) hb); have n3_ := Aside0.mk (blk_below (g := gb226) (o := .cells #[.slice none 0 0, .slice none 0 0] 28 (0, 0)) (by (with_reducible repeat (first | refine blk_drewN ?_ _ | refine blk_drew ?_ | refine blk_alloc ?_ _)); exact BK226.out) hb); have n4_ := Aside0.mk (blk_below (g := gb233) (o := .cells #[.slice Ao81 x234000_1.length co81, .slice Ao82 x234001_1.length co82] 28 (0, 0)) (by (with_reducible repeat (first | refine blk_drewN ?_ _ | refine blk_drew ?_ | refine blk_alloc ?_ _)); exact BK233.out) hb); have n5_ := Aside0.mk (below_step (by repeat (first | (with_reducible first | exact HB.out | apply below_alloc | apply pw_below_drewN | apply below_drew1 | refine below_set ?_ GE225.out | refine below_set ?_ GE226.out | refine below_set ?_ GE233.out) | exact HB.out)) hb); clear HO_234000; clear HO_234001; clear BK225; clear BK226; clear BK233; clear HB; have HO_234000 := n0_; have HO_234001 := n1_; have BK225 := n2_; have BK226 := n3_; have BK233 := n4_; have HB := n5_; clear n0_ n1_ n2_ n3_ n4_ n5_; (try clear hb); (try clear hb2); (try clear hk); (try clear hi); have hcz84_0 : w83.cell? ⟨gb233, 0, none⟩ = some (.slice Ao81 x234000_1.length co81) := (blk_cell BK233.out 0).trans rfl; have hcz84_1 : w83.cell? ⟨gb233, 1, none⟩ = some (.slice Ao82 x234001_1.length co82) := (blk_cell BK233.out 1).trans rfl; have hfz84_0 := blk_frozen BK233.out 0; have hfz84_1 := blk_frozen BK233.out 1))
          have n0_ := Aside0.mk (Kd.R_drew HO_234000.out)
          have n1_ := Aside0.mk (Kd.S_drew HO_234001.out)
          have n2_ := Aside0.mk (blk_drew BK225.out)
          have n3_ := Aside0.mk (blk_drew BK226.out)
          have n4_ := Aside0.mk (blk_drew BK233.out)
          have n5_ := Aside0.mk (below_drew1 HB.out)
          clear HO_234000
          clear HO_234001
          clear BK225
          clear BK226
          clear BK233
          clear HB
          have HO_234000 := n0_
          have HO_234001 := n1_
          have BK225 := n2_
          have BK226 := n3_
          have BK233 := n4_
          have HB := n5_
          clear n0_ n1_ n2_ n3_ n4_ n5_
          have p248 : 0 ≤ (x7_14 : Int) := of_decide_eq_true (by first | (with_reducible assumption) | assumption)
          have q248 : x7_14 < (x234001_1.length : Int) := of_decide_eq_true (by first | (with_reducible assumption) | assumption)
          obtain ⟨ad248, A248_0, c248_0, e248, hx248_0, hl248_0, hi248_0⟩ := at_L1 (Kd.S_reads' HO_234001.out).2.2 x7_14 p248 q248
          cases e248
          obtain ⟨ce248, hce248, hMe248, hcc248⟩ := Kd.S_get HO_234001.out [] x7_14 p248 (by first | exact q248 | exact of_decide_eq_true (by first | (with_reducible assumption) | assumption) | (have e_ := (Kd.S_reads' HO_234001.out).1; omega))
          obtain ⟨ve248_0, rfl, ge248_0⟩ := hMe248
          have hv248_0 := hcc248 0 _ rfl
          rw [Nat.add_zero, show ((Kd.slice 3 (Kd.int .i64))).sz = 1 from rfl, Nat.mul_one] at hv248_0
          replace hv248_0 := Option.some.inj (hv248_0.symm.trans hx248_0)
          rw [hv248_0] at ge248_0
          have HL248_0 := Aside0.mk (show Kd.R (Kd.int .i64) 3 _ _ _ _ (rd_L1 x234001_1 x7_14) from ge248_0)
          clear hv248_0 ge248_0
          have HX248_0 := Aside0.mk hx248_0
          clear hcc248 hce248
          have HR248_0 := Aside0.mk hi248_0
          have HC248_0 := Aside0.mk hl248_0
          clear hi248_0 hl248_0
          replace p248 := eq_true p248
          replace q248 := eq_true q248
          obtain ⟨go86, co86, eo86, gb86, gl86, cl86, HG86⟩ := Kd.S_form HO_234001.out (by have h_ : (x7_14 : Int) < ((x234001_1.length : Int) : Int) := of_decide_eq_true (by first | (with_reducible assumption) | assumption); have h2_ : 0 ≤ (x7_14 : Int) := (of_decide_eq_true (by first | (with_reducible assumption) | assumption)); omega)
          (first | cases eo86 | (injection eo86 with ea_ en_ ec_; (first | subst ea_ | (injection ea_ with ea_; subst ea_)); subst ec_; clear en_))
          have GB86 := Aside0.mk gb86
          have GG86 := Aside0.mk HG86
          clear gb86 gl86 HG86
          (first | simp only [add_plain] at hx248_0 | skip)
          obtain ⟨oki86, ce86, hcl86, hM86, hcc86, _, _, hH86⟩ := Kd.S_elem HO_234001.out [] (x7_14 : Int) (of_decide_eq_true (by first | (with_reducible assumption) | assumption)) (by have h_ : (x7_14 : Int) < ((x234001_1.length : Int) : Int) := of_decide_eq_true (by first | (with_reducible assumption) | assumption); first | exact h_ | (have e_ := (Kd.S_reads' HO_234001.out).1; omega) | simpa using h_)
          obtain ⟨ve86_0, rfl, ge86_0⟩ := hM86
          have hv86 := hcc86 0 _ rfl
          have hX86 := HX248_0.out
          (try simp only [add_plain] at hX86)
          (try simp only [Nat.add_zero] at hv86)
          (try rw [show ((Kd.slice 3 (Kd.int .i64))).sz = 1 from rfl, Nat.mul_one] at hv86)
          replace hv86 := Option.some.inj (hv86.symm.trans hX86)
          subst hv86
          clear hX86 hcc86 hcl86
          have UU86 := Aside0.mk (show Kd.R (Kd.int .i64) 3 _ w.heap.size oki86 (.slice A248_0 (rd_L1 x234001_1 x7_14).length c248_0) (rd_L1 x234001_1 x7_14) from ge86_0)
          have HH86 := Aside0.mk hH86
          have HN86 := Aside0.mk (Kd.S_reads' HO_234001.out).1
          clear hH86 ge86_0
          refine start_ (n := 13) (S := fun w' => w'.cell? ⟨gb233, 0, none⟩ = some (.slice Ao81 x234000_1.length co81) ∧ w'.cell? ⟨gb233, 1, none⟩ = some (.slice (some ⟨go86, 0, none⟩) x234001_1.length co82) ∧ w'.cell? ⟨go86, (x7_14).toNat, none⟩ = some (.slice A248_0 (rd_L1 x234001_1 x7_14).length c248_0)) (ds := [12]) zB7_0 (by kernel_rfl) rfl rfl ⟨(blk_cell BK233.out 0).trans rfl, (blk_cell BK233.out 1).trans rfl, hx248_0⟩ (fun hHeld => ?_); refine with_tabW spec_l17Column.tab11 spec_l17Column.bits11 (fun HT_ HW_ => ?_)
          generalize w83.drew = w85 at HO_234000 HO_234001 BK225 BK226 BK233 HB GG86 HH86 HL248_0 HR248_0 HX248_0 UU86 hx248_0 hHeld ⊢
          refine zP (i := 0) (N := some 45) zB7_1 (any_of HT_.out (by kernel_rfl)) ?_
          refine zP (i := 2) (N := some 47) zB7_2 (any_of HT_.out (by kernel_rfl)) ?_
          refine zP (i := 3) (N := some 48) zB7_3 (any_of HT_.out (by kernel_rfl)) ?_
          refine zP (i := 5) (N := some 50) zB7_4 (any_of HT_.out (by kernel_rfl)) ?_
          refine zP (i := 8) (N := some 53) zB7_5 (any_of HT_.out (by kernel_rfl)) ?_
          refine zT3 (i := 1) (N := some 46) zB7_6 (take_ofW HT_.out HW_.out (by kernel_rfl)) hHeld ?_
          refine zT3 (i := 4) (N := some 49) zB7_7 (take_ofW HT_.out HW_.out (by kernel_rfl)) hHeld ?_
          refine zP (i := 6) (N := some 51) zB7_8 (any_of HT_.out (by kernel_rfl)) ?_
          refine zT3 (i := 7) (N := some 52) zB7_9 (take_ofW HT_.out HW_.out (by kernel_rfl)) hHeld ?_
          refine one_ (i := 9) (N := some 54) zB7_10 rfl rfl (one_of HT_.out (by kernel_rfl)) (by decide) (fun K hK => ?_)
          refine value_ (w1 := ?_) (v := ?_) (by rfl) rfl ?_ ?_
          rotate_left 2
          ·go_simp
           constructor
           ·rfl
           ·rfl
          refine hK.out _ _ ⟨(blk_cell (blk_alloc BK233.out _) 0).trans rfl, (blk_cell (blk_alloc BK233.out _) 1).trans rfl, (World.cell?_alloc_lt _ _ _ (World.block_lt_of_cell? _ _ (hHeld.2.2))).trans (hHeld.2.2)⟩ (fun hHeld => ?_)
          clear hK K
          refine norm_ (a' := ?_) ?_ ?_
          rotate_left
          ·show Act.put _ (some 54) _ = _
           simp only [Act.put, List.setIfInBounds_toArray, List.set_cons_zero, List.set_cons_succ, i64_w, i32_w]
           rfl
          refine one_ (i := 10) (N := some 55) zB7_11 rfl rfl (one_of HT_.out (by kernel_rfl)) (by decide) (fun K hK => ?_)
          refine Kd.R_append_step (Kd.int .i64) (w0 := w) w.heap.size (by rfl) (.tmp 52) (.tmp 54) 22 3 (.int .i64 0) 8 rfl Try.underlying22 info3 rfl (by decide) (by omega) (.slice A248_0 (rd_L1 x234001_1 x7_14).length c248_0) (rd_L1 x234001_1 x7_14) x1_1 [.int .i64 x1_1] (fun k_ => oki86 k_ ∨ ((fun k_ => some k_ ≠ (.slice Ao81 x234000_1.length co81 : Value).ownBlock)) k_ ∧ w85.heap.size ≤ k_) (fun _ => False) rfl rfl ?aP (fun _ hk => hk.elim) ?aF ?aO ?aB ?aS ?aL ?_
          (case aP => exact rfl)
          (case aB => exact (by repeat (first | (with_reducible first | exact HB.out | apply below_alloc | apply pw_below_drewN | apply below_drew1 | refine below_set ?_ GE225.out | refine below_set ?_ GE226.out | refine below_set ?_ GE233.out) | exact HB.out)))
          (case aF => exact (fun k_ hk => .inr ⟨Kd.fresh' (Kd.R_lt (by (with_reducible repeat (first | apply Kd.R_alloc | apply Kd.R_drewN | apply Kd.R_drew)); exact HO_234000.out)) k_ hk, hk⟩))
          (case aO => exact (by (with_reducible repeat (first | apply Kd.R_alloc | apply Kd.R_drewN | apply Kd.R_drew)); exact Kd.R_mono UU86.out (fun _ hk => .inl hk)))
          (case aS => exact (below_size (by repeat (first | (with_reducible first | exact HB.out | apply below_alloc | apply pw_below_drewN | apply below_drew1 | refine below_set ?_ GE225.out | refine below_set ?_ GE226.out | refine below_set ?_ GE233.out) | exact HB.out))))
          (case aL => have := LMc76.out; omega)
          intro v250 w87 ho hb hg hat
          (first | have HS2_ := cell_grown hg (hHeld.2.2) (by first | (rw [add_block]; exact (fun e_ => ((HL248_0.out.1 _ e_.symm).2) rfl)) | (show some (Addr.add _ _).block ≠ _; rw [add_block]; exact (fun e_ => ((HL248_0.out.1 _ e_.symm).2) rfl)) | exact (fun e_ => ((HL248_0.out.1 _ e_.symm).2) rfl)) | have HS2_ := cell_grown hg (cell_unalloc (hHeld.2.2) (by first | (rw [add_block]; exact Kd.S_lt HO_234001.out _ rfl) | (show (Addr.add _ _).block < _; rw [add_block]; exact Kd.S_lt HO_234001.out _ rfl) | exact Kd.S_lt HO_234001.out _ rfl)) (by first | (rw [add_block]; exact (fun e_ => ((HL248_0.out.1 _ e_.symm).2) rfl)) | (show some (Addr.add _ _).block ≠ _; rw [add_block]; exact (fun e_ => ((HL248_0.out.1 _ e_.symm).2) rfl)) | exact (fun e_ => ((HL248_0.out.1 _ e_.symm).2) rfl)))
          rw [← Ny249.out] at ho
          have n0_ := Aside0.mk (Kd.R_grown2 (by (with_reducible repeat (first | apply Kd.R_alloc | apply Kd.R_drewN | apply Kd.R_drew)); exact HO_234000.out) rfl hg (fun k_ e_ => (HL248_0.out.1 k_ e_).1))
          have n1_ := Aside0.mk (blk_grown (g := gb225) (o := .cells #[.slice A0_0 l0_0.length c0_0, .slice A0_1 l0_1.length c0_1] 28 (0, 0)) (by (with_reducible repeat (first | refine blk_drewN ?_ _ | refine blk_drew ?_ | refine blk_alloc ?_ _)); exact BK225.out) hg (Kd.R_ne HL248_0.out BK225.out (by decide)))
          have n2_ := Aside0.mk (blk_grown (g := gb226) (o := .cells #[.slice none 0 0, .slice none 0 0] 28 (0, 0)) (by (with_reducible repeat (first | refine blk_drewN ?_ _ | refine blk_drew ?_ | refine blk_alloc ?_ _)); exact BK226.out) hg (Kd.R_ne HL248_0.out BK226.out (by decide)))
          have n3_ := Aside0.mk (blk_grown (g := gb233) (o := .cells #[.slice Ao81 x234000_1.length co81, .slice (some ⟨go86, 0, none⟩) x234001_1.length co82] 28 (0, 0)) (by (with_reducible repeat (first | refine blk_drewN ?_ _ | refine blk_drew ?_ | refine blk_alloc ?_ _)); exact BK233.out) hg (Kd.R_ne HL248_0.out BK233.out (by decide)))
          have n4_ := Aside0.mk (hb)
          have n5_ := Aside0.mk (Kd.H_grown (Kd.H_widen (by repeat (first | exact HH86.out | refine Kd.H_alloc ?_ _ | refine Kd.H_drewN ?_ _ | refine Kd.H_drew ?_))) hg (fun k_ e_ => .inl (UU86.out.1 k_ e_)))
          have n6_ := Aside0.mk (ho)
          clear HO_234000
          clear BK225
          clear BK226
          clear BK233
          clear HB
          clear HH86
          clear HO_234001
          clear UU86
          clear HL248_0
          have HO_234000 := n0_
          have BK225 := n1_
          have BK226 := n2_
          have BK233 := n3_
          have HB := n4_
          have HH86 := n5_
          have HO251 := n6_
          clear n0_ n1_ n2_ n3_ n4_ n5_ n6_
          clear ho hb hg hat
          have p77 : 0 ≤ (x7_14 : Int) := of_decide_eq_true (by first | (with_reducible assumption) | assumption)
          have q77 : (x7_14 : Int) < ((x234001_1.length : Int) : Int) := of_decide_eq_true (by first | (with_reducible assumption) | assumption)
          replace p77 := eq_true p77
          replace q77 := eq_true q77
          obtain ⟨Ao90, co90, eo90⟩ := Kd.R_slice HO251.out
          (first | subst eo90 | (injection eo90 with f1_ f2_ f3_; have f4_ := f1_.symm; have f5_ := f3_.symm; clear f1_ f2_ f3_; subst f4_; subst f5_))
          obtain ⟨_, _, hraw88, _, _, hcc88, _⟩ := Kd.H_raw HH86.out (of_decide_eq_true (by first | (with_reducible assumption) | assumption)) (by have h_ : (x7_14 : Int) < ((x234001_1.length : Int) : Int) := of_decide_eq_true (by first | (with_reducible assumption) | assumption); first | exact h_ | (have e_ := (HN86.out); omega) | simpa using h_)
          obtain ⟨_, hfr88⟩ := Kd.H_at HH86.out (of_decide_eq_true (by first | (with_reducible assumption) | assumption)) (by have h_ : (x7_14 : Int) < ((x234001_1.length : Int) : Int) := of_decide_eq_true (by first | (with_reducible assumption) | assumption); first | exact h_ | (have e_ := (HN86.out); omega) | simpa using h_)
          have hx88_0 := hcc88 0 _ rfl
          have hf88_0 := hfr88 0
          (try simp only [Nat.add_zero] at hx88_0 hf88_0)
          (try rw [show ((Kd.slice 3 (Kd.int .i64))).sz = 1 from rfl, Nat.mul_one] at hx88_0)
          (try rw [show ((Kd.slice 3 (Kd.int .i64))).sz = 1 from rfl, Nat.mul_one] at hf88_0)
          have HP88 := Kd.S_seg0 HH86.out (of_decide_eq_true (by first | (with_reducible assumption) | assumption)) (by have h_ : (x7_14 : Int) < ((x234001_1.length : Int) : Int) := of_decide_eq_true (by first | (with_reducible assumption) | assumption); first | exact h_ | (have e_ := (HN86.out); omega) | simpa using h_) (seg := [.slice Ao90 y249.length co90]) (j := 0) (show 1 ≤ 1 from by decide) (x' := y249) (Kd.M_row HO251.out) (fun _ hk => hk)
          (try simp only [show ((Kd.slice 3 (Kd.int .i64))).sz = 1 from rfl, Nat.mul_one, Nat.add_zero] at HP88)
          clear hcc88 hfr88
          have HNB225_go86 := Aside0.mk (show gb225 ≠ go86 from by have h_ := Kd.R_ne hraw88 BK225.out (by decide); intro e_; exact h_ (by rw [e_]; rfl))
          have HNB226_go86 := Aside0.mk (show gb226 ≠ go86 from by have h_ := Kd.R_ne hraw88 BK226.out (by decide); intro e_; exact h_ (by rw [e_]; rfl))
          have HNB233_go86 := Aside0.mk (show gb233 ≠ go86 from by have h_ := Kd.R_ne hraw88 BK233.out (by decide); intro e_; exact h_ (by rw [e_]; rfl))
          have HS88 := HP88.1
          rw [← Ny252.out] at HS88
          have HQ88 := Aside0.mk HS88
          obtain ⟨_, hgg88⟩ := Kd.R_typed hraw88 go86 rfl
          have GG88_ := Aside0.mk hgg88
          clear HP88 HS88 hgg88
          refine hK.out _ _ ⟨(blk_cell BK233.out 0).trans rfl, (blk_cell BK233.out 1).trans rfl, HS2_⟩ (fun hHeld => ?_)
          clear hK K
          refine norm_ (a' := ?_) ?_ ?_
          rotate_left
          ·show Act.put _ (some 55) _ = _
           simp only [Act.put, List.setIfInBounds_toArray, List.set_cons_zero, List.set_cons_succ, i64_w, i32_w]
           rfl
          refine zP (i := 11) (N := some 56) zB7_12 (any_of HT_.out (by kernel_rfl)) ?_
          refine last_ (i := 12) (N := none) zB7_13 rfl rfl (one_of HT_.out (by kernel_rfl)) (by decide) (fun K hK => ?_)
          refine skip_ (w1 := ?_) (by rfl) rfl ?_ ?_
          rotate_left
          ·go_simp
           rfl
          refine hK.out _ _ ?_
          clear hK K
          refine done_ (done_of HT_.out (by kernel_rfl)) ?_
          have n0_ : Aside0 (Kd.R (Kd.int .i64) 3 (w87.setCell ⟨go86, (x7_14 : Int).toNat, none⟩ (.slice Ao90 y249.length co90)) w.heap.size (fun _ => True) (.slice Ao81 x234000_1.length co81) x234000_1) := ⟨by (with_reducible repeat (first | apply Kd.R_alloc | apply Kd.R_drewN | apply Kd.R_drew)); exact Kd.R_mono (Kd.R_far (p := ⟨go86, (x7_14 : Int).toNat, none⟩) (Kd.R_types HO_234000.out GG88_.out (by decide)) (fun _ hk => hk.2) (.slice Ao90 y249.length co90)) (fun _ hk => trivial)⟩
          have n1_ : Aside0 (Kd.S (Kd.slice 3 (Kd.int .i64)) 22 (w87.setCell ⟨go86, (x7_14 : Int).toNat, none⟩ (.slice Ao90 y249.length co90)) w.heap.size (fun k_ => some k_ ≠ (.slice Ao81 x234000_1.length co81 : Value).ownBlock) (.slice (some ⟨go86, 0, none⟩) x234001_1.length co82) y252) := ⟨by (with_reducible repeat (first | apply Kd.S_alloc | apply Kd.S_drewN | apply Kd.S_drew)); exact HQ88.out⟩
          have n2_ : Aside0 ((w87.setCell ⟨go86, (x7_14 : Int).toNat, none⟩ (.slice Ao90 y249.length co90)).heap[gb225]? = some (.cells #[.slice A0_0 l0_0.length c0_0, .slice A0_1 l0_1.length c0_1] 28 (0, 0))) := ⟨by (with_reducible repeat (first | refine blk_drewN ?_ _ | refine blk_drew ?_ | refine blk_alloc ?_ _)); refine blk_far ?_ HNB225_go86.out _; (with_reducible repeat (first | refine blk_drewN ?_ _ | refine blk_drew ?_ | refine blk_alloc ?_ _)); exact BK225.out⟩
          have n3_ : Aside0 ((w87.setCell ⟨go86, (x7_14 : Int).toNat, none⟩ (.slice Ao90 y249.length co90)).heap[gb226]? = some (.cells #[.slice none 0 0, .slice none 0 0] 28 (0, 0))) := ⟨by (with_reducible repeat (first | refine blk_drewN ?_ _ | refine blk_drew ?_ | refine blk_alloc ?_ _)); refine blk_far ?_ HNB226_go86.out _; (with_reducible repeat (first | refine blk_drewN ?_ _ | refine blk_drew ?_ | refine blk_alloc ?_ _)); exact BK226.out⟩
          have n4_ : Aside0 ((w87.setCell ⟨go86, (x7_14 : Int).toNat, none⟩ (.slice Ao90 y249.length co90)).heap[gb233]? = some (.cells #[.slice Ao81 x234000_1.length co81, .slice (some ⟨go86, 0, none⟩) x234001_1.length co82] 28 (0, 0))) := ⟨by (with_reducible repeat (first | refine blk_drewN ?_ _ | refine blk_drew ?_ | refine blk_alloc ?_ _)); refine blk_far ?_ HNB233_go86.out _; (with_reducible repeat (first | refine blk_drewN ?_ _ | refine blk_drew ?_ | refine blk_alloc ?_ _)); exact BK233.out⟩
          have n5_ : Aside0 (Below w.heap.size w (w87.setCell ⟨go86, (x7_14 : Int).toNat, none⟩ (.slice Ao90 y249.length co90))) := ⟨by repeat (first | (with_reducible first | exact HB.out | apply below_alloc | apply pw_below_drewN | apply below_drew1 | refine below_set ?_ GB86.out | refine below_set ?_ GE225.out | refine below_set ?_ GE226.out | refine below_set ?_ GE233.out) | exact HB.out)⟩
          (try clear HO_234000)
          (try clear HO_234001)
          (try clear BK225)
          (try clear BK226)
          (try clear BK233)
          (try clear HB)
          generalize (w87.setCell ⟨go86, (x7_14 : Int).toNat, none⟩ (.slice Ao90 y249.length co90)) = w91 at n0_ n1_ n2_ n3_ n4_ n5_ ⊢
          have HO_234000 := n0_
          have HO_234001 := n1_
          have BK225 := n2_
          have BK226 := n3_
          have BK233 := n4_
          have HB := n5_
          clear n0_ n1_ n2_ n3_ n4_ n5_
          have hcz92_0 : w91.cell? ⟨gb233, 0, none⟩ = some (.slice Ao81 x234000_1.length co81) := (blk_cell BK233.out 0).trans rfl
          have hcz92_1 : w91.cell? ⟨gb233, 1, none⟩ = some (.slice (some ⟨go86, 0, none⟩) x234001_1.length co82) := (blk_cell BK233.out 1).trans rfl
          have hfz92_0 := blk_frozen BK233.out 0
          have hfz92_1 := blk_frozen BK233.out 1
          have hnb93 := NB226_225.out
          have hnc93 := NB225_226.out
          have hcz94_0 : w91.cell? ⟨gb226, 0, none⟩ = some (.slice none 0 0) := (blk_cell BK226.out 0).trans rfl
          have hcz94_1 : w91.cell? ⟨gb226, 1, none⟩ = some (.slice none 0 0) := (blk_cell BK226.out 1).trans rfl
          have hfz94_0 := blk_frozen BK226.out 0
          have hfz94_1 := blk_frozen BK226.out 1
          try go_wp2
          refine bodyPost_ret (results_cell_row rfl _ _ gb226 28 #[.slice Ao81 x234000_1.length co81, .slice (some ⟨go86, 0, none⟩) x234001_1.length co82] (0, 0) _ rfl (by (with_reducible repeat (first | refine blk_drewN ?_ _ | refine blk_drew ?_ | refine blk_alloc ?_ _)); refine blk_put (cs := #[.slice Ao81 x234000_1.length co81, .slice none 0 0]) ?_ 1 _ rfl; (with_reducible repeat (first | refine blk_drewN ?_ _ | refine blk_drew ?_ | refine blk_alloc ?_ _)); refine blk_put (cs := #[.slice none 0 0, .slice none 0 0]) ?_ 0 _ rfl; (with_reducible repeat (first | refine blk_drewN ?_ _ | refine blk_drew ?_ | refine blk_alloc ?_ _)); exact BK226.out) Try.underlying28 rfl (by kernel_rfl)) rfl ?_
          exact ⟨_, _, by first | rfl | (simp [errW_none, errW_some] <;> rfl) | (simp [*, errW_none, errW_some] <;> rfl), by (with_reducible repeat (first | apply Kd.R_alloc | apply Kd.R_drewN | apply Kd.R_drew)); exact Kd.R_mono (Kd.R_far (p := ⟨gb226, 1, none⟩) (Kd.R_far (p := ⟨gb226, 0, none⟩) (Kd.R_types HO_234000.out BK226.out (by decide)) (fun _ hk => hk.2) (.slice Ao81 x234000_1.length co81)) (fun _ hk => hk.2) (.slice (some ⟨go86, 0, none⟩) x234001_1.length co82)) (fun _ hk => trivial), by (with_reducible repeat (first | apply Kd.S_alloc | apply Kd.S_drewN | apply Kd.S_drew)); exact Kd.S_mono (Kd.S_far (p := ⟨gb226, 1, none⟩) (Kd.S_far (p := ⟨gb226, 0, none⟩) (Kd.S_types HO_234001.out BK226.out (by decide)) (fun _ hk => hk.2) (.slice Ao81 x234000_1.length co81)) (fun _ hk => hk.2) (.slice (some ⟨go86, 0, none⟩) x234001_1.length co82)) (fun _ hk => hk.1), by repeat (first | (with_reducible first | exact HB.out | apply below_alloc | apply pw_below_drewN | apply below_drew1 | refine below_set ?_ GE225.out | refine below_set ?_ GE226.out | refine below_set ?_ GE233.out) | exact HB.out)⟩
         ·rw [if_neg c76] at H
          exact absurd H (by simp)
        ·rw [if_neg c75] at H
         exact absurd H (by simp)
       ·rw [if_neg c74] at H
        exact absurd H (by simp)
     ·rw [if_neg c43] at H
      have c43b0 : (t236 == 0) = false := beq_eq_false_iff_ne.mpr c43
      have c43b1 : (t236 != 0) = true := bne_iff_ne.mpr c43
      by_cases c95 : 0 ≤ x7_14
      ·rw [if_pos c95] at H
       have c95b0 : decide (0 ≤ x7_14) = true := decide_eq_true c95
       clear c95
       by_cases c96 : x7_14 < (x234001_1.length : Int)
       ·rw [if_pos c96] at H
        have c96b0 : decide (x7_14 < (x234001_1.length : Int)) = true := decide_eq_true c96
        clear c96
        by_cases c97 : 0 ≤ x6_1
        ·rw [if_pos c97] at H
         have c97b0 : decide (0 ≤ x6_1) = true := decide_eq_true c97
         clear c97
         by_cases c98 : x6_1 < ((rd_L1 x234001_1 x7_14).length : Int)
         ·rw [if_pos c98] at H
          have c98b0 : decide (x6_1 < ((rd_L1 x234001_1 x7_14).length : Int)) = true := decide_eq_true c98
          clear c98
          obtain ⟨y254, hy254⟩ : ∃ y_ : List Int, y_ = ((rd_L1 x234001_1 x7_14).set (x6_1 : Int).toNat x1_1) := ⟨_, rfl⟩
          replace H : (spec_l17Column.l0 kj14 t236 (wrap64 (x6_1 + 1)) x234000_1 (x234001_1.set (x7_14 : Int).toNat y254)) = some (r1, r2) := by first | (rw [hy254]; with_reducible exact H) | (have H2_ := (Option.bind_some _ _).symm.trans H; rw [hy254]; with_reducible exact H2_) | (have H2_ := (Option.bind_some _ _).symm.trans H; with_reducible exact H2_) | with_reducible exact H | (rw [hy254]; exact H) | exact H
          have Ny254 := Aside0.mk hy254
          clear hy254
          obtain ⟨y256, hy256⟩ : ∃ y_ : List (List Int), y_ = (x234001_1.set (x7_14 : Int).toNat y254) := ⟨_, rfl⟩
          replace H : (spec_l17Column.l0 kj14 t236 (wrap64 (x6_1 + 1)) x234000_1 y256) = some (r1, r2) := by first | (rw [hy256]; with_reducible exact H) | (have H2_ := (Option.bind_some _ _).symm.trans H; rw [hy256]; with_reducible exact H2_) | (have H2_ := (Option.bind_some _ _).symm.trans H; with_reducible exact H2_) | with_reducible exact H | (rw [hy256]; exact H) | exact H
          have Ny256 := Aside0.mk hy256
          clear hy256
          have H' := Aside0.mk H
          clear H
          have hnb100 := NB233_225.out
          have hnc100 := NB225_233.out
          have hnb101 := NB233_226.out
          have hnc101 := NB226_233.out
          have hcz102_0 : wc.cell? ⟨gb233, 0, none⟩ = some (u234000) := (blk_cell BK233.out 0).trans rfl
          have hcz102_1 : wc.cell? ⟨gb233, 1, none⟩ = some (u234001) := (blk_cell BK233.out 1).trans rfl
          have hfz102_0 := blk_frozen BK233.out 0
          have hfz102_1 := blk_frozen BK233.out 1
          obtain ⟨Ao103, co103, eo103⟩ := Kd.R_slice HO_234000.out
          subst eo103
          obtain ⟨Ao104, co104, eo104⟩ := Kd.S_slice HO_234001.out
          subst eo104
          go_wp2_with (first | ((with_reducible refine gate_callee (f := 74) rfl ?_); refine zG (some 31) Try.func74 #[.agg #[.slice Ao103 x234000_1.length co103, .slice Ao104 x234001_1.length co104], .int .i64 x7_14, .int .i64 x6_1] ?_; (with_reducible refine (spec_l5Entry.calls kj14 _ _ x234000_1 _ _ x234001_1 x7_14 x6_1 t236 _ ?side1 ?side2 ?side3 ?side4 A42.out).mono ?_); (case side1 => repeat (first | exact (Kd.R_reads' HO_234000.out).2.2 | (with_reducible refine Kd.C_alloc ?_ _) | (with_reducible refine Kd.C_drewN ?_ _) | (with_reducible refine Kd.C_drew ?_))); (case side2 => exact (Kd.R_reads' HO_234000.out).2.1); (case side3 => repeat (first | exact (Kd.S_reads' HO_234001.out).2.2 | (with_reducible refine Kd.C_alloc ?_ _) | (with_reducible refine Kd.C_drewN ?_ _) | (with_reducible refine Kd.C_drew ?_))); (case side4 => exact (Kd.S_reads' HO_234001.out).2.1); rintro e w105 ⟨rfl, hb⟩; refine ⟨_, rfl, ?_⟩; have n0_ := Aside0.mk (Kd.R_below (by (with_reducible repeat (first | apply Kd.R_alloc | apply Kd.R_drewN | apply Kd.R_drew)); exact HO_234000.out) hb); have n1_ := Aside0.mk (Kd.S_below (by (with_reducible repeat (first | apply Kd.S_alloc | apply Kd.S_drewN | apply Kd.S_drew)); exact HO_234001.out) hb); have n2_ := Aside0.mk (blk_below (g := gb225) (o := .cells #[.slice A0_0 l0_0.length c0_0, .slice A0_1 l0_1.length c0_1] 28 (0, 0)) (by (with_reducible repeat (first | refine blk_drewN ?_ _ | refine blk_drew ?_ | refine blk_alloc ?_ _)); exact BK225.out) hb); have n3_ := Aside0.mk (blk_below (g := gb226) (o := .cells #[.slice none 0 0, .slice none 0 0] 28 (0, 0)) (by (with_reducible repeat (first | refine blk_drewN ?_ _ | refine blk_drew ?_ | refine blk_alloc ?_ _)); exact BK226.out) hb); have n4_ := Aside0.mk (blk_below (g := gb233) (o := .cells #[.slice Ao103 x234000_1.length co103, .slice Ao104 x234001_1.length co104] 28 (0, 0)) (by (with_reducible repeat (first | refine blk_drewN ?_ _ | refine blk_drew ?_ | refine blk_alloc ?_ _)); exact BK233.out) hb); have n5_ := Aside0.mk (below_step (by repeat (first | (with_reducible first | exact HB.out | apply below_alloc | apply pw_below_drewN | apply below_drew1 | refine below_set ?_ GE225.out | refine below_set ?_ GE226.out | refine below_set ?_ GE233.out) | exact HB.out)) hb); clear HO_234000; clear HO_234001; clear BK225; clear BK226; clear BK233; clear HB; have HO_234000 := n0_; have HO_234001 := n1_; have BK225 := n2_; have BK226 := n3_; have BK233 := n4_; have HB := n5_; clear n0_ n1_ n2_ n3_ n4_ n5_; (try clear hb); (try clear hb2); (try clear hk); (try clear hi); have hcz106_0 : w105.cell? ⟨gb233, 0, none⟩ = some (.slice Ao103 x234000_1.length co103) := (blk_cell BK233.out 0).trans rfl; have hcz106_1 : w105.cell? ⟨gb233, 1, none⟩ = some (.slice Ao104 x234001_1.length co104) := (blk_cell BK233.out 1).trans rfl; have hfz106_0 := blk_frozen BK233.out 0; have hfz106_1 := blk_frozen BK233.out 1; have p253 : 0 ≤ (x7_14 : Int) := of_decide_eq_true (by first | (with_reducible assumption) | assumption); have q253 : x7_14 < (x234001_1.length : Int) := of_decide_eq_true (by first | (with_reducible assumption) | assumption); obtain ⟨ad253, A253_0, c253_0, e253, hx253_0, hl253_0, hi253_0⟩ := at_L1 (Kd.S_reads' HO_234001.out).2.2 x7_14 p253 q253; cases e253; obtain ⟨ce253, hce253, hMe253, hcc253⟩ := Kd.S_get HO_234001.out [] x7_14 p253 (by first | exact q253 | exact of_decide_eq_true (by first | (with_reducible assumption) | assumption) | (have e_ := (Kd.S_reads' HO_234001.out).1; omega)); obtain ⟨ve253_0, rfl, ge253_0⟩ := hMe253; have hv253_0 := hcc253 0 _ rfl; rw [Nat.add_zero, show ((Kd.slice 3 (Kd.int .i64))).sz = 1 from rfl, Nat.mul_one] at hv253_0; replace hv253_0 := Option.some.inj (hv253_0.symm.trans hx253_0); rw [hv253_0] at ge253_0; have HL253_0 := Aside0.mk (show Kd.R (Kd.int .i64) 3 _ _ _ _ (rd_L1 x234001_1 x7_14) from ge253_0); clear hv253_0 ge253_0; have HX253_0 := Aside0.mk hx253_0; clear hcc253 hce253; have HR253_0 := Aside0.mk hi253_0; have HC253_0 := Aside0.mk hl253_0; clear hi253_0 hl253_0; replace p253 := eq_true p253; replace q253 := eq_true q253; have p99 : 0 ≤ (x6_1 : Int) := of_decide_eq_true (by first | (with_reducible assumption) | assumption); have q99 : (x6_1 : Int) < (((rd_L1 x234001_1 x7_14).length : Int) : Int) := of_decide_eq_true (by first | (with_reducible assumption) | assumption); obtain ⟨go99, co99, eo99, gb99, gl99, cl99, HG99⟩ := Kd.R_form HL253_0.out (by omega); (first | cases eo99 | (injection eo99 with ea_ en_ ec_; (first | subst ea_ | (injection ea_ with ea_; subst ea_)); subst ec_; clear en_)); have GB99 := Aside0.mk gb99; have GG99 := Aside0.mk HG99; clear gb99 gl99 HG99; obtain ⟨hx99_0, hf99_0⟩ := Kd.R_celln 0 HL253_0.out (x6_1 : Int) p99 q99; replace p99 := eq_true p99; replace q99 := eq_true q99; have hq107 : (x7_14 : Int) < (x234001_1.length : Int) := (by have h_ : (x7_14 : Int) < ((x234001_1.length : Int) : Int) := of_decide_eq_true (by first | (with_reducible assumption) | assumption); first | exact h_ | (have e_ := (Kd.S_reads' HO_234001.out).1; omega) | simpa only [List.length_set, List.length_set] using h_); obtain ⟨oki107, ce107, hcl107, hM107, hcc107, hok107, hbk107⟩ := Kd.S_borrow HO_234001.out [] (x7_14 : Int) (of_decide_eq_true (by first | (with_reducible assumption) | assumption)) hq107; obtain ⟨ve107_0, rfl, ge107_0⟩ := hM107; have hv107 := hcc107 0 _ rfl; rw [Nat.add_zero, show ((Kd.slice 3 (Kd.int .i64))).sz = 1 from rfl, Nat.mul_one] at hv107; replace hv107 := Option.some.inj (hv107.symm.trans HX253_0.out); subst hv107; clear hcc107 hcl107; replace ge107_0 := (show Kd.R (Kd.int .i64) 3 _ _ _ _ (rd_L1 x234001_1 x7_14) from ge107_0); have HP107 := Kd.R_putg ge107_0 (x6_1 : Int) x1_1) | ((with_reducible refine gate_store (t := 3) (p := 65) rfl ?_); refine store_event (t := 3) (p := 65) (v := ?vo_w108) (w1 := (w105.setCell ⟨go99, (x6_1 : Int).toNat, none⟩ (.int .i64 x1_1))) ?hg ?ho ?hn ?hr ?_; (case ho => rfl); (case hg => rfl); (case hn => rfl); (case hr => first | (go_simp; done) | (go_simp; rfl)); intro w108 hw; have hg : w105.grownBy w108 (some go99) := (by rw [hw]; exact HP107.2); have hz_ : Kd.R (Kd.int .i64) 3 w108 w.heap.size oki107 (.slice (some ⟨go99, 0, none⟩) (rd_L1 x234001_1 x7_14).length c253_0) y254 := (by rw [hw, Ny254.out]; exact HP107.1); have hp_ : Kd.S (Kd.slice 3 (Kd.int .i64)) 22 w108 w.heap.size (fun k_ => some k_ ≠ (.slice Ao103 x234000_1.length co103 : Value).ownBlock) (.slice (some ad253) x234001_1.length co104) y256 := (by rw [Ny256.out]; exact hbk107 hg (fun k_ e_ => by injection e_ with e_; subst e_; exact ge107_0.1 _ rfl) (Kd.M_row hz_)); have hm_ := Kd.R_mono hz_ hok107; clear HP107 hbk107; have n0_ := Aside0.mk (Kd.R_grown1 (by (with_reducible repeat (first | apply Kd.R_alloc | apply Kd.R_drewN | apply Kd.R_drew)); exact HO_234000.out) rfl hg ((HL253_0.out.1 _ rfl).1)); have n1_ := Aside0.mk (hp_); have n2_ := Aside0.mk (blk_grown (g := gb225) (o := .cells #[.slice A0_0 l0_0.length c0_0, .slice A0_1 l0_1.length c0_1] 28 (0, 0)) (by (with_reducible repeat (first | refine blk_drewN ?_ _ | refine blk_drew ?_ | refine blk_alloc ?_ _)); exact BK225.out) hg (Kd.R_ne HL253_0.out BK225.out (by decide))); have n3_ := Aside0.mk (blk_grown (g := gb226) (o := .cells #[.slice none 0 0, .slice none 0 0] 28 (0, 0)) (by (with_reducible repeat (first | refine blk_drewN ?_ _ | refine blk_drew ?_ | refine blk_alloc ?_ _)); exact BK226.out) hg (Kd.R_ne HL253_0.out BK226.out (by decide))); have n4_ := Aside0.mk (blk_grown (g := gb233) (o := .cells #[.slice Ao103 x234000_1.length co103, .slice (some ad253) x234001_1.length co104] 28 (0, 0)) (by (with_reducible repeat (first | refine blk_drewN ?_ _ | refine blk_drew ?_ | refine blk_alloc ?_ _)); exact BK233.out) hg (Kd.R_ne HL253_0.out BK233.out (by decide))); have n5_ := Aside0.mk ((by rw [hw]; exact below_set (HB.out) GB99.out : Below w.heap.size w w108)); have n6_ := Aside0.mk (hm_); have n7_ := Aside0.mk ((Kd.R_reads' hm_).2.1); clear HO_234000; clear HO_234001; clear BK225; clear BK226; clear BK233; clear HB; clear HL253_0; have HO_234000 := n0_; have HO_234001 := n1_; have BK225 := n2_; have BK226 := n3_; have BK233 := n4_; have HB := n5_; have HL257 := n6_; have HC255 := n7_; clear n0_ n1_ n2_ n3_ n4_ n5_ n6_ n7_; clear hg hw hp_ hz_ hm_ hok107))
          go_roundg kj14
          case measure => have := HK1.out; have := HJ14.out; omega
          case rel => exact ⟨(t236), (wrap64 (x6_1 + 1)), (x234000_1), (y256), (.slice Ao103 x234000_1.length co103), (.slice (some ad253) x234001_1.length co104), (by first | rfl | (simp; done) | (simp [*]; done)), (by first | rfl | (simp; done) | (simp [*]; done)), H', ⟨by have := HK1.out; have := HJ14.out; omega⟩, ⟨by (with_reducible repeat (first | apply Kd.R_alloc | apply Kd.R_drewN | apply Kd.R_drew)); exact HO_234000.out⟩, ⟨by (with_reducible repeat (first | apply Kd.S_alloc | apply Kd.S_drewN | apply Kd.S_drew)); exact HO_234001.out⟩, ⟨by (with_reducible repeat (first | refine blk_drewN ?_ _ | refine blk_drew ?_ | refine blk_alloc ?_ _)); exact BK225.out⟩, ⟨by (with_reducible repeat (first | refine blk_drewN ?_ _ | refine blk_drew ?_ | refine blk_alloc ?_ _)); exact BK226.out⟩, ⟨by (with_reducible repeat (first | refine blk_drewN ?_ _ | refine blk_drew ?_ | refine blk_alloc ?_ _)); exact BK233.out⟩, ⟨by repeat (first | (with_reducible first | exact HB.out | apply below_alloc | apply pw_below_drewN | apply below_drew1 | refine below_set ?_ GE225.out | refine below_set ?_ GE226.out | refine below_set ?_ GE233.out) | exact HB.out)⟩⟩
         ·rw [if_neg c98] at H
          exact absurd H (by simp)
        ·rw [if_neg c97] at H
         exact absurd H (by simp)
       ·rw [if_neg c96] at H
        exact absurd H (by simp)
      ·rw [if_neg c95] at H
       exact absurd H (by simp)

end Go.Proofs.Ytljjjdgnpnnmoaa.F
