/- For each Go function named below: the plain Lean function that it computes, and that its call returns just that; conditions: those that each theorem names. -/
import Derived.Test.YtfijlemaiiobaaaF0
import Derived.Test.YtfijlemaiiobaaaF2
namespace Go.Proofs.Ytfijlemaiiobaaa.F
open Go.RowKit Go.Proofs.YtfijlemaiiobaaaW.PrintWords Go.Proofs.YtfijlemaiiobaaaW.PrintLast Go.Proofs.YtfijlemaiiobaaaW.PrintMore
attribute [local go_sem] max2_int min2_int max_two min_two max_three min_three max_four min_four   -- for this text's walks alone
set_option linter.unusedVariables false
set_option linter.unusedSimpArgs false
abbrev zB3_0 : Array Bool := #[false, false, false, false, false, false, false, false, false, false, false, false, false]
abbrev zB3_1 : Array Bool := #[true, false, false, false, false, false, false, false, false, false, false, false, false]
abbrev zB3_2 : Array Bool := #[true, false, true, false, false, false, false, false, false, false, false, false, false]
abbrev zB3_3 : Array Bool := #[true, false, true, true, false, false, false, false, false, false, false, false, false]
abbrev zB3_4 : Array Bool := #[true, false, true, true, false, true, false, false, false, false, false, false, false]
abbrev zB3_5 : Array Bool := #[true, false, true, true, false, true, false, false, true, false, false, false, false]
abbrev zB3_6 : Array Bool := #[true, true, true, true, false, true, false, false, true, false, false, false, false]
abbrev zB3_7 : Array Bool := #[true, true, true, true, true, true, false, false, true, false, false, false, false]
abbrev zB3_8 : Array Bool := #[true, true, true, true, true, true, true, false, true, false, false, false, false]
abbrev zB3_9 : Array Bool := #[true, true, true, true, true, true, true, true, true, false, false, false, false]
abbrev zB3_10 : Array Bool := #[true, true, true, true, true, true, true, true, true, true, false, false, false]
abbrev zB3_11 : Array Bool := #[true, true, true, true, true, true, true, true, true, true, true, false, false]
abbrev zB3_12 : Array Bool := #[true, true, true, true, true, true, true, true, true, true, true, true, false]
abbrev zB3_13 : Array Bool := #[true, true, true, true, true, true, true, true, true, true, true, true, true]

/-! ### spec_l17Column: function 63 -/
mutual
def spec_l17Column.l0 : Nat → Int → Int → List Int → List (List Int) → Option (List Int × (List (List Int)))
 | 0, _, _, _, _ => none
 | k + 1, x1, x6, x162000, x162001 => spec_l17Column.l1 k x1 x6 0 x162000 x162001
def spec_l17Column.j2 : Nat → Int → Int → Int → List Int → List (List Int) → Option (List Int × (List (List Int)))
 | 0, _, _, _, _, _ => none
 | k + 1, x1, x6, x7, x162000, x162001 => (spec_l5Entry.f k x162000 x162001 x7 x6).bind fun t164 => (if t164 = 0 then (if x7 = (x162001.length : Int) then (if x162001.length < 5864062014805 then ((some (x162001 ++ [(([] : List Int))] : List (List Int))).bind fun y168 => (if 0 ≤ x7 then (if x7 < (y168.length : Int) then (if (rd_L1 y168 x7).length < 17592186044416 then (some (x162000, (y168.set (x7 : Int).toNat ((rd_L1 y168 x7) ++ [x1])))) else (none)) else (none)) else (none))) else (none)) else (if 0 ≤ x7 then (if x7 < (x162001.length : Int) then (if (rd_L1 x162001 x7).length < 17592186044416 then (some (x162000, (x162001.set (x7 : Int).toNat ((rd_L1 x162001 x7) ++ [x1])))) else (none)) else (none)) else (none))) else (if 0 ≤ x7 then (if x7 < (x162001.length : Int) then (if 0 ≤ x6 then (if x6 < ((rd_L1 x162001 x7).length : Int) then (spec_l17Column.l0 k t164 (wrap64 (x6 + 1)) x162000 (x162001.set (x7 : Int).toNat ((rd_L1 x162001 x7).set (x6 : Int).toNat x1))) else (none)) else (none)) else (none)) else (none)))
def spec_l17Column.l1 : Nat → Int → Int → Int → List Int → List (List Int) → Option (List Int × (List (List Int)))
 | 0, _, _, _, _, _ => none
 | k + 1, x1, x6, x7, x162000, x162001 => (spec_l5Entry.f k x162000 x162001 x7 x6).bind fun t162 => (if t162 > 0 then ((spec_l5Entry.f k x162000 x162001 x7 x6).bind fun t163 => (if t163 < x1 then (spec_l17Column.l1 k x1 x6 (wrap64 (x7 + 1)) x162000 x162001) else (spec_l17Column.j2 k x1 x6 x7 x162000 x162001))) else (spec_l17Column.j2 k x1 x6 x7 x162000 x162001))
end
def spec_l17Column.f (k : Nat) (l0_0 : List Int) (l0_1 : List (List Int)) (a1 : Int) : Option (List Int × (List (List Int))) := (spec_l5Copy.f k l0_0 l0_1).bind fun bt155 => (spec_l17Column.l0 k a1 0 bt155.1 bt155.2)
theorem spec_l17Column.mono_l : ∀ k, (∀ y0 y1 y2 y3, LeO (spec_l17Column.l0 k y0 y1 y2 y3) (spec_l17Column.l0 (k + 1) y0 y1 y2 y3)) ∧ (∀ y0 y1 y2 y3 y4, LeO (spec_l17Column.j2 k y0 y1 y2 y3 y4) (spec_l17Column.j2 (k + 1) y0 y1 y2 y3 y4)) ∧ (∀ y0 y1 y2 y3 y4, LeO (spec_l17Column.l1 k y0 y1 y2 y3 y4) (spec_l17Column.l1 (k + 1) y0 y1 y2 y3 y4))
 | 0 => ⟨fun _ _ _ _ r h => by simp [spec_l17Column.l0] at h, fun _ _ _ _ _ r h => by simp [spec_l17Column.j2] at h, fun _ _ _ _ _ r h => by simp [spec_l17Column.l1] at h⟩
 | k + 1 => by
  obtain ⟨ih0, ih1, ih2⟩ := spec_l17Column.mono_l k
  refine ⟨?_, ?_, ?_⟩
  ·intro y0 y1 y2 y3
   unfold spec_l17Column.l0
   repeat' first
   | (with_reducible exact ih0 _ _ _ _)
   | (with_reducible exact ih1 _ _ _ _ _)
   | (with_reducible exact ih2 _ _ _ _ _)
   | (with_reducible exact spec_l5Copy.mono _ _ _)
   | (with_reducible exact spec_l5Entry.mono _ _ _ _ _)
   | (with_reducible exact LeO.refl _)
   | (with_reducible exact LeO.none _)
   | (with_reducible refine LeO.ite ?_ ?_)
   | (with_reducible refine LeO.bind ?_ (fun _ => ?_))
   | exact ih0 _ _ _ _
   | exact ih1 _ _ _ _ _
   | exact ih2 _ _ _ _ _
   | exact spec_l5Copy.mono _ _ _
   | exact spec_l5Entry.mono _ _ _ _ _
   | exact LeO.none _
   | refine LeO.ite ?_ ?_
   | refine LeO.bind ?_ (fun _ => ?_)
  ·intro y0 y1 y2 y3 y4
   unfold spec_l17Column.j2
   repeat' first
   | (with_reducible exact ih0 _ _ _ _)
   | (with_reducible exact ih1 _ _ _ _ _)
   | (with_reducible exact ih2 _ _ _ _ _)
   | (with_reducible exact spec_l5Copy.mono _ _ _)
   | (with_reducible exact spec_l5Entry.mono _ _ _ _ _)
   | (with_reducible exact LeO.refl _)
   | (with_reducible exact LeO.none _)
   | (with_reducible refine LeO.ite ?_ ?_)
   | (with_reducible refine LeO.bind ?_ (fun _ => ?_))
   | exact ih0 _ _ _ _
   | exact ih1 _ _ _ _ _
   | exact ih2 _ _ _ _ _
   | exact spec_l5Copy.mono _ _ _
   | exact spec_l5Entry.mono _ _ _ _ _
   | exact LeO.none _
   | refine LeO.ite ?_ ?_
   | refine LeO.bind ?_ (fun _ => ?_)
  ·intro y0 y1 y2 y3 y4
   unfold spec_l17Column.l1
   repeat' first
   | (with_reducible exact ih0 _ _ _ _)
   | (with_reducible exact ih1 _ _ _ _ _)
   | (with_reducible exact ih2 _ _ _ _ _)
   | (with_reducible exact spec_l5Copy.mono _ _ _)
   | (with_reducible exact spec_l5Entry.mono _ _ _ _ _)
   | (with_reducible exact LeO.refl _)
   | (with_reducible exact LeO.none _)
   | (with_reducible refine LeO.ite ?_ ?_)
   | (with_reducible refine LeO.bind ?_ (fun _ => ?_))
   | exact ih0 _ _ _ _
   | exact ih1 _ _ _ _ _
   | exact ih2 _ _ _ _ _
   | exact spec_l5Copy.mono _ _ _
   | exact spec_l5Entry.mono _ _ _ _ _
   | exact LeO.none _
   | refine LeO.ite ?_ ?_
   | refine LeO.bind ?_ (fun _ => ?_)
theorem spec_l17Column.mono : ∀ a0 a1 a2 k, LeO (spec_l17Column.f k a0 a1 a2) (spec_l17Column.f (k + 1) a0 a1 a2) := by
 intro a0 a1 a2 k
 obtain ⟨ih0, ih1, ih2⟩ := spec_l17Column.mono_l k
 unfold spec_l17Column.f
 repeat' first
   | (with_reducible exact ih0 _ _ _ _)
   | (with_reducible exact ih1 _ _ _ _ _)
   | (with_reducible exact ih2 _ _ _ _ _)
   | (with_reducible exact spec_l5Copy.mono _ _ _)
   | (with_reducible exact spec_l5Entry.mono _ _ _ _ _)
   | (with_reducible exact LeO.refl _)
   | (with_reducible exact LeO.none _)
   | (with_reducible refine LeO.ite ?_ ?_)
   | (with_reducible refine LeO.bind ?_ (fun _ => ?_))
   | exact ih0 _ _ _ _
   | exact ih1 _ _ _ _ _
   | exact ih2 _ _ _ _ _
   | exact spec_l5Copy.mono _ _ _
   | exact spec_l5Entry.mono _ _ _ _ _
   | exact LeO.none _
   | refine LeO.ite ?_ ?_
   | refine LeO.bind ?_ (fun _ => ?_)
def spec_l17Column.T11 : Bool × List (List Nat × List Nat) := (true, [([], []), ([0], [0]), ([], []), ([], []), ([3], [3]), ([], []), ([4, 5], [4, 5]), ([6], [6]), ([], []), ([8], [8]), ([7, 9], [7, 9]), ([1, 2, 0, 1, 2, 3, 4, 5, 6, 7, 8, 9, 10], [1, 2]), ([11, 10, 10, 0, 1, 2, 3, 4, 5, 6, 7, 8, 9, 10], [10, 11])])
def spec_l17Column.B11 : List Nat := [0, 1, 0, 0, 8, 0, 56, 120, 0, 256, 1016, 2047, 4095]
theorem spec_l17Column.tab11 : rtab .any (opsOf Try.f63 11) = spec_l17Column.T11 := by kernel_rfl
theorem spec_l17Column.bits11 : waitsOk spec_l17Column.T11.2 spec_l17Column.B11 = true := by kernel_rfl
set_option maxHeartbeats 8000000 in
set_option maxRecDepth 100000 in
theorem spec_l17Column.calls (k : Nat) (A0_0 : Option Addr) (c0_0 : Nat) (l0_0 : List Int) (A0_1 : Option Addr) (c0_1 : Nat) (l0_1 : List (List Int)) (a1 : Int) (r1 : List Int) (r2 : List (List Int)) (w : World) (hr0_0 : Kd.C (Kd.int .i64) w A0_0 l0_0.length l0_0) (hc0_0 : l0_0.length ≤ c0_0) (hr0_1 : Kd.C (Kd.slice 3 (Kd.int .i64)) w A0_1 l0_1.length l0_1) (hc0_1 : l0_1.length ≤ c0_1) (h : spec_l17Column.f k l0_0 l0_1 a1 = some (r1, r2)) :
  Calls Try.prog 63 #[.agg #[.slice A0_0 l0_0.length c0_0, .slice A0_1 l0_1.length c0_1], .int .i64 a1] w fun e w' => ∃ v0_ v1_ : Value, e = .returned (.agg #[v0_, v1_]) ∧ Kd.R (Kd.int .i64) 3 w' w.heap.size (fun _ => True) v0_ r1 ∧ Kd.S (Kd.slice 3 (Kd.int .i64)) 24 w' w.heap.size (fun k_ => some k_ ≠ (v0_ : Value).ownBlock) v1_ r2 ∧ Below w.heap.size w w' := by
 have hu34 := Try.underlying34
 have HR0_0 := Aside0.mk hr0_0
 have HC0_0 := Aside0.mk hc0_0
 clear hr0_0 hc0_0
 have HR0_1 := Aside0.mk hr0_1
 have HC0_1 := Aside0.mk hc0_1
 clear hr0_1 hc0_1
 have HB := Aside0.mk (Below.refl w.heap.size w)
 have H : ((spec_l5Copy.f k l0_0 l0_1).bind fun bt155 => (spec_l17Column.l0 k a1 0 bt155.1 bt155.2)) = some (r1, r2) := h
 clear h
 replace H := Option.bind_eq_some_iff.mp H
 obtain ⟨⟨t155, t158⟩, A30, H⟩ := H
 replace H : (spec_l17Column.l0 k a1 0 t155 t158) = some (r1, r2) := H
 have A3 := Aside0.mk A30
 clear A30
 have H' := Aside0.mk H
 clear H
 go_enter Try.func63, Try.ntmps63
 go_wp2_with (first | ((with_reducible refine gate_dst (N := 2) rfl ?_); refine zX (N := 2) (cs := #[.slice A0_0 l0_0.length c0_0, .slice A0_1 l0_1.length c0_1]) (t := 34) ?_; intro gb153 hg w4 hbox hb; have n0_ := Aside0.mk (below_step (by repeat (first | (with_reducible first | exact HB.out | apply below_alloc | apply pw_below_drewN | apply below_drew1) | exact HB.out)) hb); have n1_ := Aside0.mk (hbox); have n2_ := Aside0.mk ((by rw [hg]; exact (below_size (by repeat (first | (with_reducible first | exact HB.out | apply below_alloc | apply pw_below_drewN | apply below_drew1) | exact HB.out))) : w.heap.size ≤ gb153)); have n3_ := Aside0.mk ((by rw [hg]; exact (below_size (by repeat (first | (with_reducible first | exact HB.out | apply below_alloc | apply pw_below_drewN | apply below_drew1) | exact HB.out))) : w.heap.size ≤ gb153)); clear HB; have HB := n0_; have BK153 := n1_; have GW153 := n2_; have GE153 := n3_; clear n0_ n1_ n2_ n3_; clear hb hbox hg) | ((with_reducible refine gate_dst (N := 4) rfl ?_); refine zX (N := 4) (cs := #[.slice none 0 0, .slice none 0 0]) (t := 34) ?_; intro gb154 hg w5 hbox hb; have n0_ := Aside0.mk (blk_below (g := gb153) (o := .cells #[.slice A0_0 l0_0.length c0_0, .slice A0_1 l0_1.length c0_1] 34 (0, 0)) (by (with_reducible repeat (first | refine blk_drewN ?_ _ | refine blk_drew ?_ | refine blk_alloc ?_ _)); exact BK153.out) hb); have n1_ := Aside0.mk (below_step (by repeat (first | (with_reducible first | exact HB.out | apply below_alloc | apply pw_below_drewN | apply below_drew1 | refine below_set ?_ GE153.out) | exact HB.out)) hb); have n2_ := Aside0.mk (hbox); have n3_ := Aside0.mk ((by rw [hg]; exact (below_size (by repeat (first | (with_reducible first | exact HB.out | apply below_alloc | apply pw_below_drewN | apply below_drew1 | refine below_set ?_ GE153.out) | exact HB.out))) : w.heap.size ≤ gb154)); have n4_ := Aside0.mk ((by rw [hg]; exact (below_size (by repeat (first | (with_reducible first | exact HB.out | apply below_alloc | apply pw_below_drewN | apply below_drew1 | refine below_set ?_ GE153.out) | exact HB.out))) : w.heap.size ≤ gb154)); have n5_ := Aside0.mk ((by rw [hg]; exact Nat.ne_of_lt (blk_lt (g := gb153) (o := .cells #[.slice A0_0 l0_0.length c0_0, .slice A0_1 l0_1.length c0_1] 34 (0, 0)) (by (with_reducible repeat (first | refine blk_drewN ?_ _ | refine blk_drew ?_ | refine blk_alloc ?_ _)); exact BK153.out)) : gb153 ≠ gb154)); have n6_ := Aside0.mk ((by rw [hg]; exact Nat.ne_of_gt (blk_lt (g := gb153) (o := .cells #[.slice A0_0 l0_0.length c0_0, .slice A0_1 l0_1.length c0_1] 34 (0, 0)) (by (with_reducible repeat (first | refine blk_drewN ?_ _ | refine blk_drew ?_ | refine blk_alloc ?_ _)); exact BK153.out)) : gb154 ≠ gb153)); clear BK153; clear HB; have BK153 := n0_; have HB := n1_; have BK154 := n2_; have GW154 := n3_; have GE154 := n4_; have NB153_154 := n5_; have NB154_153 := n6_; clear n0_ n1_ n2_ n3_ n4_ n5_ n6_; clear hb hbox hg; have hnb6 := NB153_154.out; have hnc6 := NB154_153.out; have hcz7_0 : w5.cell? ⟨gb153, 0, none⟩ = some (.slice A0_0 l0_0.length c0_0) := (blk_cell BK153.out 0).trans rfl; have hcz7_1 : w5.cell? ⟨gb153, 1, none⟩ = some (.slice A0_1 l0_1.length c0_1) := (blk_cell BK153.out 1).trans rfl; have hfz7_0 := blk_frozen BK153.out 0; have hfz7_1 := blk_frozen BK153.out 1) | ((with_reducible refine gate_callee (f := 85) rfl ?_); refine zG (some 10) Try.func85 #[.agg #[.slice A0_0 l0_0.length c0_0, .slice A0_1 l0_1.length c0_1]] ?_; (with_reducible refine (spec_l5Copy.calls k _ _ l0_0 _ _ l0_1 t155 t158 _ ?side1 ?side2 ?side3 ?side4 A3.out).mono ?_); (case side1 => repeat (first | exact (Kd.C_below HR0_0.out HB.out) | (with_reducible refine Kd.C_alloc ?_ _) | (with_reducible refine Kd.C_drewN ?_ _) | (with_reducible refine Kd.C_drew ?_))); (case side2 => exact HC0_0.out); (case side3 => repeat (first | exact (Kd.C_below HR0_1.out HB.out) | (with_reducible refine Kd.C_alloc ?_ _) | (with_reducible refine Kd.C_drewN ?_ _) | (with_reducible refine Kd.C_drew ?_))); (case side4 => exact HC0_1.out); rintro e w8 ⟨v156, v159, rfl, ho0, ho1, hb⟩; refine ⟨_, rfl, ?_⟩; have n0_ := Aside0.mk (Kd.R_lower ho0 (below_size (by repeat (first | (with_reducible first | exact HB.out | apply below_alloc | apply pw_below_drewN | apply below_drew1 | refine below_set ?_ GE153.out | refine below_set ?_ GE154.out) | exact HB.out)))); have n1_ := Aside0.mk (Kd.S_lower ho1 (below_size (by repeat (first | (with_reducible first | exact HB.out | apply below_alloc | apply pw_below_drewN | apply below_drew1 | refine below_set ?_ GE153.out | refine below_set ?_ GE154.out) | exact HB.out)))); have n2_ := Aside0.mk (blk_below (g := gb153) (o := .cells #[.slice A0_0 l0_0.length c0_0, .slice A0_1 l0_1.length c0_1] 34 (0, 0)) (by (with_reducible repeat (first | refine blk_drewN ?_ _ | refine blk_drew ?_ | refine blk_alloc ?_ _)); exact BK153.out) hb); have n3_ := Aside0.mk (blk_below (g := gb154) (o := .cells #[.slice none 0 0, .slice none 0 0] 34 (0, 0)) (by (with_reducible repeat (first | refine blk_drewN ?_ _ | refine blk_drew ?_ | refine blk_alloc ?_ _)); exact BK154.out) hb); have n4_ := Aside0.mk (below_step (by repeat (first | (with_reducible first | exact HB.out | apply below_alloc | apply pw_below_drewN | apply below_drew1 | refine below_set ?_ GE153.out | refine below_set ?_ GE154.out) | exact HB.out)) hb); clear BK153; clear BK154; clear HB; have HO157 := n0_; have HO160 := n1_; have BK153 := n2_; have BK154 := n3_; have HB := n4_; clear n0_ n1_ n2_ n3_ n4_; (try clear hb); (try clear hb2); (try clear hk); (try clear hi); (try clear ho0); (try clear ho1)) | ((with_reducible refine gate_dst (N := 5) rfl ?_); refine zX (N := 5) (cs := #[.slice none 0 0, .slice none 0 0]) (t := 34) ?_; intro gb161 hg w9 hbox hb; have n0_ := Aside0.mk (Kd.R_below (by (with_reducible repeat (first | apply Kd.R_alloc | apply Kd.R_drewN | apply Kd.R_drew)); exact HO157.out) hb); have n1_ := Aside0.mk (Kd.S_below (by (with_reducible repeat (first | apply Kd.S_alloc | apply Kd.S_drewN | apply Kd.S_drew)); exact HO160.out) hb); have n2_ := Aside0.mk (blk_below (g := gb153) (o := .cells #[.slice A0_0 l0_0.length c0_0, .slice A0_1 l0_1.length c0_1] 34 (0, 0)) (by (with_reducible repeat (first | refine blk_drewN ?_ _ | refine blk_drew ?_ | refine blk_alloc ?_ _)); exact BK153.out) hb); have n3_ := Aside0.mk (blk_below (g := gb154) (o := .cells #[.slice none 0 0, .slice none 0 0] 34 (0, 0)) (by (with_reducible repeat (first | refine blk_drewN ?_ _ | refine blk_drew ?_ | refine blk_alloc ?_ _)); exact BK154.out) hb); have n4_ := Aside0.mk (below_step (by repeat (first | (with_reducible first | exact HB.out | apply below_alloc | apply pw_below_drewN | apply below_drew1 | refine below_set ?_ GE153.out | refine below_set ?_ GE154.out) | exact HB.out)) hb); have n5_ := Aside0.mk (hbox); have n6_ := Aside0.mk ((by rw [hg]; exact (below_size (by repeat (first | (with_reducible first | exact HB.out | apply below_alloc | apply pw_below_drewN | apply below_drew1 | refine below_set ?_ GE153.out | refine below_set ?_ GE154.out) | exact HB.out))) : w.heap.size ≤ gb161)); have n7_ := Aside0.mk ((by rw [hg]; exact (below_size (by repeat (first | (with_reducible first | exact HB.out | apply below_alloc | apply pw_below_drewN | apply below_drew1 | refine below_set ?_ GE153.out | refine below_set ?_ GE154.out) | exact HB.out))) : w.heap.size ≤ gb161)); have n8_ := Aside0.mk ((by rw [hg]; exact Nat.ne_of_lt (blk_lt (g := gb153) (o := .cells #[.slice A0_0 l0_0.length c0_0, .slice A0_1 l0_1.length c0_1] 34 (0, 0)) (by (with_reducible repeat (first | refine blk_drewN ?_ _ | refine blk_drew ?_ | refine blk_alloc ?_ _)); exact BK153.out)) : gb153 ≠ gb161)); have n9_ := Aside0.mk ((by rw [hg]; exact Nat.ne_of_gt (blk_lt (g := gb153) (o := .cells #[.slice A0_0 l0_0.length c0_0, .slice A0_1 l0_1.length c0_1] 34 (0, 0)) (by (with_reducible repeat (first | refine blk_drewN ?_ _ | refine blk_drew ?_ | refine blk_alloc ?_ _)); exact BK153.out)) : gb161 ≠ gb153)); have n10_ := Aside0.mk ((by rw [hg]; exact Nat.ne_of_lt (blk_lt (g := gb154) (o := .cells #[.slice none 0 0, .slice none 0 0] 34 (0, 0)) (by (with_reducible repeat (first | refine blk_drewN ?_ _ | refine blk_drew ?_ | refine blk_alloc ?_ _)); exact BK154.out)) : gb154 ≠ gb161)); have n11_ := Aside0.mk ((by rw [hg]; exact Nat.ne_of_gt (blk_lt (g := gb154) (o := .cells #[.slice none 0 0, .slice none 0 0] 34 (0, 0)) (by (with_reducible repeat (first | refine blk_drewN ?_ _ | refine blk_drew ?_ | refine blk_alloc ?_ _)); exact BK154.out)) : gb161 ≠ gb154)); clear HO157; clear HO160; clear BK153; clear BK154; clear HB; have HO157 := n0_; have HO160 := n1_; have BK153 := n2_; have BK154 := n3_; have HB := n4_; have BK161 := n5_; have GW161 := n6_; have GE161 := n7_; have NB153_161 := n8_; have NB161_153 := n9_; have NB154_161 := n10_; have NB161_154 := n11_; clear n0_ n1_ n2_ n3_ n4_ n5_ n6_ n7_ n8_ n9_ n10_ n11_; clear hb hbox hg; obtain ⟨Ao10, co10, eo10⟩ := Kd.R_slice HO157.out; subst eo10; have hnb11 := NB161_153.out; have hnc11 := NB153_161.out; have hnb12 := NB161_154.out; have hnc12 := NB154_161.out; have hcz13_0 : w9.cell? ⟨gb161, 0, none⟩ = some (.slice none 0 0) := (blk_cell BK161.out 0).trans rfl; have hcz13_1 : w9.cell? ⟨gb161, 1, none⟩ = some (.slice none 0 0) := (blk_cell BK161.out 1).trans rfl; have hfz13_0 := blk_frozen BK161.out 0; have hfz13_1 := blk_frozen BK161.out 1; obtain ⟨Ao14, co14, eo14⟩ := Kd.S_slice HO160.out; subst eo14))
 go_loopg [1, 6] k (fun kq v1 v6 w' => ∃ (x1_1 : Int) (x6_1 : Int) (x162000_1 : List Int) (x162001_1 : List (List Int)) (u162000 : Value) (u162001 : Value), v1 = .int .i64 x1_1 ∧ v6 = .int .i64 x6_1 ∧ Aside0 (spec_l17Column.l0 kq x1_1 x6_1 x162000_1 x162001_1 = some (r1, r2)) ∧ Aside0 (kq ≤ k) ∧ Aside0 (Kd.R (Kd.int .i64) 3 w' w.heap.size (fun _ => True) u162000 x162000_1) ∧ Aside0 (Kd.S (Kd.slice 3 (Kd.int .i64)) 24 w' w.heap.size (fun k_ => some k_ ≠ (u162000 : Value).ownBlock) u162001 x162001_1) ∧ Aside0 (w'.heap[gb153]? = some (.cells #[(.slice A0_0 l0_0.length c0_0), (.slice A0_1 l0_1.length c0_1)] 34 (0, 0))) ∧ Aside0 (w'.heap[gb154]? = some (.cells #[(.slice none 0 0), (.slice none 0 0)] 34 (0, 0))) ∧ Aside0 (w'.heap[gb161]? = some (.cells #[u162000, u162001] 34 (0, 0))) ∧ Aside0 (Below w.heap.size w w'))
 case atStart => exact ⟨(a1), (0), (t155), (t158), (.slice Ao10 t155.length co10), (.slice Ao14 t158.length co14), (by first | rfl | (simp; done) | (simp [*]; done)), (by first | rfl | (simp; done) | (simp [*]; done)), H', ⟨Nat.le_refl _⟩, ⟨by (with_reducible repeat (first | apply Kd.R_alloc | apply Kd.R_drewN | apply Kd.R_drew)); exact Kd.R_mono (Kd.R_far (p := ⟨gb161, 1, none⟩) (Kd.R_far (p := ⟨gb161, 0, none⟩) (Kd.R_types HO157.out BK161.out (by decide)) (fun _ hk => hk.2) (.slice Ao10 t155.length co10)) (fun _ hk => hk.2) (.slice Ao14 t158.length co14)) (fun _ hk => trivial)⟩, ⟨by (with_reducible repeat (first | apply Kd.S_alloc | apply Kd.S_drewN | apply Kd.S_drew)); exact Kd.S_mono (Kd.S_far (p := ⟨gb161, 1, none⟩) (Kd.S_far (p := ⟨gb161, 0, none⟩) (Kd.S_types HO160.out BK161.out (by decide)) (fun _ hk => hk.2) (.slice Ao10 t155.length co10)) (fun _ hk => hk.2) (.slice Ao14 t158.length co14)) (fun _ hk => hk.1)⟩, ⟨by (with_reducible repeat (first | refine blk_drewN ?_ _ | refine blk_drew ?_ | refine blk_alloc ?_ _)); refine blk_far ?_ NB153_161.out _; (with_reducible repeat (first | refine blk_drewN ?_ _ | refine blk_drew ?_ | refine blk_alloc ?_ _)); refine blk_far ?_ NB153_161.out _; (with_reducible repeat (first | refine blk_drewN ?_ _ | refine blk_drew ?_ | refine blk_alloc ?_ _)); exact BK153.out⟩, ⟨by (with_reducible repeat (first | refine blk_drewN ?_ _ | refine blk_drew ?_ | refine blk_alloc ?_ _)); refine blk_far ?_ NB154_161.out _; (with_reducible repeat (first | refine blk_drewN ?_ _ | refine blk_drew ?_ | refine blk_alloc ?_ _)); refine blk_far ?_ NB154_161.out _; (with_reducible repeat (first | refine blk_drewN ?_ _ | refine blk_drew ?_ | refine blk_alloc ?_ _)); exact BK154.out⟩, ⟨by (with_reducible repeat (first | refine blk_drewN ?_ _ | refine blk_drew ?_ | refine blk_alloc ?_ _)); refine blk_put (cs := #[.slice Ao10 t155.length co10, .slice none 0 0]) ?_ 1 _ rfl; (with_reducible repeat (first | refine blk_drewN ?_ _ | refine blk_drew ?_ | refine blk_alloc ?_ _)); refine blk_put (cs := #[.slice none 0 0, .slice none 0 0]) ?_ 0 _ rfl; (with_reducible repeat (first | refine blk_drewN ?_ _ | refine blk_drew ?_ | refine blk_alloc ?_ _)); exact BK161.out⟩, ⟨by repeat (first | (with_reducible first | exact HB.out | apply below_alloc | apply pw_below_drewN | apply below_drew1 | refine below_set ?_ GE153.out | refine below_set ?_ GE154.out | refine below_set ?_ GE161.out) | exact HB.out)⟩⟩
 case round =>
  clear H'
  try clear c1
  try clear p2
  try clear c6
  try clear c8
  try clear c11
  try clear c12
  try clear hcz13_0
  try clear hcz13_1
  try clear hcz7_0
  try clear hcz7_1
  try clear hfz13_0
  try clear hfz13_1
  try clear hfz7_0
  try clear hfz7_1
  obtain ⟨x1_1, x6_1, x162000_1, x162001_1, u162000, u162001, rfl, rfl, HA, HK1, HO_162000, HO_162001, BK153, BK154, BK161, HB⟩ := hrel
  cases gk with
  | zero => exact absurd HA.out (by simp [spec_l17Column.l0])
  | succ k1 =>
   have H := HA.out
   clear HA
   simp only [spec_l17Column.l0] at H
   have HC15 := Aside0.mk H
   clear H
   go_upto_block 2 with (fail)
   go_cut [7] (fun v7 wc => ∃ (kq : Nat) (x7_14 : Int), v7 = .int .i64 x7_14 ∧ Aside0 (spec_l17Column.j2 kq x1_1 x6_1 x7_14 x162000_1 x162001_1 = some (r1, r2)) ∧ Aside0 (kq ≤ k1) ∧ Aside0 (Kd.R (Kd.int .i64) 3 wc w.heap.size (fun _ => True) u162000 x162000_1) ∧ Aside0 (Kd.S (Kd.slice 3 (Kd.int .i64)) 24 wc w.heap.size (fun k_ => some k_ ≠ (u162000 : Value).ownBlock) u162001 x162001_1) ∧ Aside0 (wc.heap[gb153]? = some (.cells #[(.slice A0_0 l0_0.length c0_0), (.slice A0_1 l0_1.length c0_1)] 34 (0, 0))) ∧ Aside0 (wc.heap[gb154]? = some (.cells #[(.slice none 0 0), (.slice none 0 0)] 34 (0, 0))) ∧ Aside0 (wc.heap[gb161]? = some (.cells #[u162000, u162001] 34 (0, 0))) ∧ Aside0 (Below w.heap.size w wc))
   case first =>
    have H := HC15.out
    clear HC15
    have H' := Aside0.mk H
    clear H
    go_wp2
    go_loopg [7] k1 (fun kq v7 w' => ∃ (x7_2 : Int), v7 = .int .i64 x7_2 ∧ Aside0 (spec_l17Column.l1 kq x1_1 x6_1 x7_2 x162000_1 x162001_1 = some (r1, r2)) ∧ Aside0 (kq ≤ k1) ∧ Aside0 (Kd.R (Kd.int .i64) 3 w' w.heap.size (fun _ => True) u162000 x162000_1) ∧ Aside0 (Kd.S (Kd.slice 3 (Kd.int .i64)) 24 w' w.heap.size (fun k_ => some k_ ≠ (u162000 : Value).ownBlock) u162001 x162001_1) ∧ Aside0 (w'.heap[gb153]? = some (.cells #[(.slice A0_0 l0_0.length c0_0), (.slice A0_1 l0_1.length c0_1)] 34 (0, 0))) ∧ Aside0 (w'.heap[gb154]? = some (.cells #[(.slice none 0 0), (.slice none 0 0)] 34 (0, 0))) ∧ Aside0 (w'.heap[gb161]? = some (.cells #[u162000, u162001] 34 (0, 0))) ∧ Aside0 (Below w.heap.size w w'))
    case atStart => exact ⟨(0), (by first | rfl | (simp; done) | (simp [*]; done)), H', ⟨Nat.le_refl _⟩, ⟨by (with_reducible repeat (first | apply Kd.R_alloc | apply Kd.R_drewN | apply Kd.R_drew)); exact HO_162000.out⟩, ⟨by (with_reducible repeat (first | apply Kd.S_alloc | apply Kd.S_drewN | apply Kd.S_drew)); exact HO_162001.out⟩, ⟨by (with_reducible repeat (first | refine blk_drewN ?_ _ | refine blk_drew ?_ | refine blk_alloc ?_ _)); exact BK153.out⟩, ⟨by (with_reducible repeat (first | refine blk_drewN ?_ _ | refine blk_drew ?_ | refine blk_alloc ?_ _)); exact BK154.out⟩, ⟨by (with_reducible repeat (first | refine blk_drewN ?_ _ | refine blk_drew ?_ | refine blk_alloc ?_ _)); exact BK161.out⟩, ⟨by repeat (first | (with_reducible first | exact HB.out | apply below_alloc | apply pw_below_drewN | apply below_drew1 | refine below_set ?_ GE153.out | refine below_set ?_ GE154.out | refine below_set ?_ GE161.out) | exact HB.out)⟩⟩
    case round =>
     clear H'
     try clear c1
     try clear p2
     try clear c6
     try clear c8
     try clear c11
     try clear c12
     try clear hcz13_0
     try clear hcz13_1
     try clear hcz7_0
     try clear hcz7_1
     try clear hfz13_0
     try clear hfz13_1
     try clear hfz7_0
     try clear hfz7_1
     try clear p2
     obtain ⟨x7_2, rfl, HA, HK2, HO_162000, HO_162001, BK153, BK154, BK161, HB⟩ := hrel
     cases gk with
     | zero => exact absurd HA.out (by simp [spec_l17Column.l1])
     | succ k2 =>
      have H := HA.out
      clear HA
      simp only [spec_l17Column.l1] at H
      replace H := Option.bind_eq_some_iff.mp H
      obtain ⟨t162, A160, H⟩ := H
      replace H : (if t162 > 0 then ((spec_l5Entry.f k2 x162000_1 x162001_1 x7_2 x6_1).bind fun t163 => (if t163 < x1_1 then (spec_l17Column.l1 k2 x1_1 x6_1 (wrap64 (x7_2 + 1)) x162000_1 x162001_1) else (spec_l17Column.j2 k2 x1_1 x6_1 x7_2 x162000_1 x162001_1))) else (spec_l17Column.j2 k2 x1_1 x6_1 x7_2 x162000_1 x162001_1)) = some (r1, r2) := H
      have A16 := Aside0.mk A160
      clear A160
      by_cases c17 : t162 > 0
      ·rw [if_pos c17] at H
       have c17b0 : decide (0 < t162) = true := decide_eq_true c17
       clear c17
       (first | rw [c17b0] | (simp only [i64_w, i32_w]; rw [c17b0]) | skip)
       replace H := Option.bind_eq_some_iff.mp H
       obtain ⟨t163, A180, H⟩ := H
       replace H : (if t163 < x1_1 then (spec_l17Column.l1 k2 x1_1 x6_1 (wrap64 (x7_2 + 1)) x162000_1 x162001_1) else (spec_l17Column.j2 k2 x1_1 x6_1 x7_2 x162000_1 x162001_1)) = some (r1, r2) := H
       have A18 := Aside0.mk A180
       clear A180
       by_cases c19 : t163 < x1_1
       ·rw [if_pos c19] at H
        have c19b0 : decide (t163 < x1_1) = true := decide_eq_true c19
        clear c19
        have H' := Aside0.mk H
        clear H
        have hnb20 := NB161_153.out
        have hnc20 := NB153_161.out
        have hnb21 := NB161_154.out
        have hnc21 := NB154_161.out
        have hcz22_0 : wr.cell? ⟨gb161, 0, none⟩ = some (u162000) := (blk_cell BK161.out 0).trans rfl
        have hcz22_1 : wr.cell? ⟨gb161, 1, none⟩ = some (u162001) := (blk_cell BK161.out 1).trans rfl
        have hfz22_0 := blk_frozen BK161.out 0
        have hfz22_1 := blk_frozen BK161.out 1
        obtain ⟨Ao23, co23, eo23⟩ := Kd.R_slice HO_162000.out
        subst eo23
        obtain ⟨Ao24, co24, eo24⟩ := Kd.S_slice HO_162001.out
        subst eo24
        go_wp2_with (first | ((with_reducible refine gate_callee (f := 86) rfl ?_); refine zG (some 16) Try.func86 #[.agg #[.slice Ao23 x162000_1.length co23, .slice Ao24 x162001_1.length co24], .int .i64 x7_2, .int .i64 x6_1] ?_; (with_reducible refine (spec_l5Entry.calls k2 _ _ x162000_1 _ _ x162001_1 x7_2 x6_1 t162 _ ?side1 ?side2 ?side3 ?side4 A16.out).mono ?_); (case side1 => repeat (first | exact (Kd.R_reads' HO_162000.out).2.2 | (with_reducible refine Kd.C_alloc ?_ _) | (with_reducible refine Kd.C_drewN ?_ _) | (with_reducible refine Kd.C_drew ?_))); (case side2 => exact (Kd.R_reads' HO_162000.out).2.1); (case side3 => repeat (first | exact (Kd.S_reads' HO_162001.out).2.2 | (with_reducible refine Kd.C_alloc ?_ _) | (with_reducible refine Kd.C_drewN ?_ _) | (with_reducible refine Kd.C_drew ?_))); (case side4 => exact (Kd.S_reads' HO_162001.out).2.1); rintro e w25 ⟨rfl, hb⟩; refine ⟨_, rfl, ?_⟩; have n0_ := Aside0.mk (Kd.R_below (by (with_reducible repeat (first | apply Kd.R_alloc | apply Kd.R_drewN | apply Kd.R_drew)); exact HO_162000.out) hb); have n1_ := Aside0.mk (Kd.S_below (by (with_reducible repeat (first | apply Kd.S_alloc | apply Kd.S_drewN | apply Kd.S_drew)); exact HO_162001.out) hb); have n2_ := Aside0.mk (blk_below (g := gb153) (o := .cells #[.slice A0_0 l0_0.length c0_0, .slice A0_1 l0_1.length c0_1] 34 (0, 0)) (by (with_reducible repeat (first | refine blk_drewN ?_ _ | refine blk_drew ?_ | refine blk_alloc ?_ _)); exact BK153.out) hb); have n3_ := Aside0.mk (blk_below (g := gb154) (o := .cells #[.slice none 0 0, .slice none 0 0] 34 (0, 0)) (by (with_reducible repeat (first | refine blk_drewN ?_ _ | refine blk_drew ?_ | refine blk_alloc ?_ _)); exact BK154.out) hb); have n4_ := Aside0.mk (blk_below (g := gb161) (o := .cells #[.slice Ao23 x162000_1.length co23, .slice Ao24 x162001_1.length co24] 34 (0, 0)) (by (with_reducible repeat (first | refine blk_drewN ?_ _ | refine blk_drew ?_ | refine blk_alloc ?_ _)); exact BK161.out) hb); have n5_ := Aside0.mk (below_step (by repeat (first | (with_reducible first | exact HB.out | apply below_alloc | apply pw_below_drewN | apply below_drew1 | refine below_set ?_ GE153.out | refine below_set ?_ GE154.out | refine below_set ?_ GE161.out) | exact HB.out)) hb); clear HO_162000; clear HO_162001; clear BK153; clear BK154; clear BK161; clear HB; have HO_162000 := n0_; have HO_162001 := n1_; have BK153 := n2_; have BK154 := n3_; have BK161 := n4_; have HB := n5_; clear n0_ n1_ n2_ n3_ n4_ n5_; (try clear hb); (try clear hb2); (try clear hk); (try clear hi); have hcz26_0 : w25.cell? ⟨gb161, 0, none⟩ = some (.slice Ao23 x162000_1.length co23) := (blk_cell BK161.out 0).trans rfl; have hcz26_1 : w25.cell? ⟨gb161, 1, none⟩ = some (.slice Ao24 x162001_1.length co24) := (blk_cell BK161.out 1).trans rfl; have hfz26_0 := blk_frozen BK161.out 0; have hfz26_1 := blk_frozen BK161.out 1) | (go_at_call 86; (with_reducible refine (spec_l5Entry.calls k2 _ _ x162000_1 _ _ x162001_1 x7_2 x6_1 t163 _ ?side1 ?side2 ?side3 ?side4 A18.out).mono ?_); (case side1 => repeat (first | exact (Kd.R_reads' HO_162000.out).2.2 | (with_reducible refine Kd.C_alloc ?_ _) | (with_reducible refine Kd.C_drewN ?_ _) | (with_reducible refine Kd.C_drew ?_))); (case side2 => exact (Kd.R_reads' HO_162000.out).2.1); (case side3 => repeat (first | exact (Kd.S_reads' HO_162001.out).2.2 | (with_reducible refine Kd.C_alloc ?_ _) | (with_reducible refine Kd.C_drewN ?_ _) | (with_reducible refine Kd.C_drew ?_))); (case side4 => exact (Kd.S_reads' HO_162001.out).2.1); rintro e w27 ⟨rfl, hb⟩; have n0_ := Aside0.mk (Kd.R_below (by (with_reducible repeat (first | apply Kd.R_alloc | apply Kd.R_drewN | apply Kd.R_drew)); exact HO_162000.out) hb); have n1_ := Aside0.mk (Kd.S_below (by (with_reducible repeat (first | apply Kd.S_alloc | apply Kd.S_drewN | apply Kd.S_drew)); exact HO_162001.out) hb); have n2_ := Aside0.mk (blk_below (g := gb153) (o := .cells #[.slice A0_0 l0_0.length c0_0, .slice A0_1 l0_1.length c0_1] 34 (0, 0)) (by (with_reducible repeat (first | refine blk_drewN ?_ _ | refine blk_drew ?_ | refine blk_alloc ?_ _)); exact BK153.out) hb); have n3_ := Aside0.mk (blk_below (g := gb154) (o := .cells #[.slice none 0 0, .slice none 0 0] 34 (0, 0)) (by (with_reducible repeat (first | refine blk_drewN ?_ _ | refine blk_drew ?_ | refine blk_alloc ?_ _)); exact BK154.out) hb); have n4_ := Aside0.mk (blk_below (g := gb161) (o := .cells #[.slice Ao23 x162000_1.length co23, .slice Ao24 x162001_1.length co24] 34 (0, 0)) (by (with_reducible repeat (first | refine blk_drewN ?_ _ | refine blk_drew ?_ | refine blk_alloc ?_ _)); exact BK161.out) hb); have n5_ := Aside0.mk (below_step (by repeat (first | (with_reducible first | exact HB.out | apply below_alloc | apply pw_below_drewN | apply below_drew1 | refine below_set ?_ GE153.out | refine below_set ?_ GE154.out | refine below_set ?_ GE161.out) | exact HB.out)) hb); clear HO_162000; clear HO_162001; clear BK153; clear BK154; clear BK161; clear HB; have HO_162000 := n0_; have HO_162001 := n1_; have BK153 := n2_; have BK154 := n3_; have BK161 := n4_; have HB := n5_; clear n0_ n1_ n2_ n3_ n4_ n5_; (try clear hb); (try clear hb2); (try clear hk); (try clear hi)))
        go_roundg k2
        case measure => have := HK1.out; have := HK2.out; omega
        case rel => exact ⟨(wrap64 (x7_2 + 1)), (by first | rfl | (simp; done) | (simp [*]; done)), H', ⟨by have := HK1.out; have := HK2.out; omega⟩, ⟨by (with_reducible repeat (first | apply Kd.R_alloc | apply Kd.R_drewN | apply Kd.R_drew)); exact HO_162000.out⟩, ⟨by (with_reducible repeat (first | apply Kd.S_alloc | apply Kd.S_drewN | apply Kd.S_drew)); exact HO_162001.out⟩, ⟨by (with_reducible repeat (first | refine blk_drewN ?_ _ | refine blk_drew ?_ | refine blk_alloc ?_ _)); exact BK153.out⟩, ⟨by (with_reducible repeat (first | refine blk_drewN ?_ _ | refine blk_drew ?_ | refine blk_alloc ?_ _)); exact BK154.out⟩, ⟨by (with_reducible repeat (first | refine blk_drewN ?_ _ | refine blk_drew ?_ | refine blk_alloc ?_ _)); exact BK161.out⟩, ⟨by repeat (first | (with_reducible first | exact HB.out | apply below_alloc | apply pw_below_drewN | apply below_drew1 | refine below_set ?_ GE153.out | refine below_set ?_ GE154.out | refine below_set ?_ GE161.out) | exact HB.out)⟩⟩
       ·rw [if_neg c19] at H
        have c19b0 : decide (t163 < x1_1) = false := decide_eq_false c19
        clear c19
        have H' := Aside0.mk H
        clear H
        have hnb28 := NB161_153.out
        have hnc28 := NB153_161.out
        have hnb29 := NB161_154.out
        have hnc29 := NB154_161.out
        have hcz30_0 : wr.cell? ⟨gb161, 0, none⟩ = some (u162000) := (blk_cell BK161.out 0).trans rfl
        have hcz30_1 : wr.cell? ⟨gb161, 1, none⟩ = some (u162001) := (blk_cell BK161.out 1).trans rfl
        have hfz30_0 := blk_frozen BK161.out 0
        have hfz30_1 := blk_frozen BK161.out 1
        obtain ⟨Ao31, co31, eo31⟩ := Kd.R_slice HO_162000.out
        subst eo31
        obtain ⟨Ao32, co32, eo32⟩ := Kd.S_slice HO_162001.out
        subst eo32
        go_wp2_with (first | ((with_reducible refine gate_callee (f := 86) rfl ?_); refine zG (some 16) Try.func86 #[.agg #[.slice Ao31 x162000_1.length co31, .slice Ao32 x162001_1.length co32], .int .i64 x7_2, .int .i64 x6_1] ?_; (with_reducible refine (spec_l5Entry.calls k2 _ _ x162000_1 _ _ x162001_1 x7_2 x6_1 t162 _ ?side1 ?side2 ?side3 ?side4 A16.out).mono ?_); (case side1 => repeat (first | exact (Kd.R_reads' HO_162000.out).2.2 | (with_reducible refine Kd.C_alloc ?_ _) | (with_reducible refine Kd.C_drewN ?_ _) | (with_reducible refine Kd.C_drew ?_))); (case side2 => exact (Kd.R_reads' HO_162000.out).2.1); (case side3 => repeat (first | exact (Kd.S_reads' HO_162001.out).2.2 | (with_reducible refine Kd.C_alloc ?_ _) | (with_reducible refine Kd.C_drewN ?_ _) | (with_reducible refine Kd.C_drew ?_))); (case side4 => exact (Kd.S_reads' HO_162001.out).2.1); rintro e w33 ⟨rfl, hb⟩; refine ⟨_, rfl, ?_⟩; have n0_ := Aside0.mk (Kd.R_below (by (with_reducible repeat (first | apply Kd.R_alloc | apply Kd.R_drewN | apply Kd.R_drew)); exact HO_162000.out) hb); have n1_ := Aside0.mk (Kd.S_below (by (with_reducible repeat (first | apply Kd.S_alloc | apply Kd.S_drewN | apply Kd.S_drew)); exact HO_162001.out) hb); have n2_ := Aside0.mk (blk_below (g := gb153) (o := .cells #[.slice A0_0 l0_0.length c0_0, .slice A0_1 l0_1.length c0_1] 34 (0, 0)) (by (with_reducible repeat (first | refine blk_drewN ?_ _ | refine blk_drew ?_ | refine blk_alloc ?_ _)); exact BK153.out) hb); have n3_ := Aside0.mk (blk_below (g := gb154) (o := .cells #[.slice none 0 0, .slice none 0 0] 34 (0, 0)) (by (with_reducible repeat (first | refine blk_drewN ?_ _ | refine blk_drew ?_ | refine blk_alloc ?_ _)); exact BK154.out) hb); have n4_ := Aside0.mk (blk_below (g := gb161) (o := .cells #[.slice Ao31 x162000_1.length co31, .slice Ao32 x162001_1.length co32] 34 (0, 0)) (by (with_reducible repeat (first | refine blk_drewN ?_ _ | refine blk_drew ?_ | refine blk_alloc ?_ _)); exact BK161.out) hb); have n5_ := Aside0.mk (below_step (by repeat (first | (with_reducible first | exact HB.out | apply below_alloc | apply pw_below_drewN | apply below_drew1 | refine below_set ?_ GE153.out | refine below_set ?_ GE154.out | refine below_set ?_ GE161.out) | exact HB.out)) hb); clear HO_162000; clear HO_162001; clear BK153; clear BK154; clear BK161; clear HB; have HO_162000 := n0_; have HO_162001 := n1_; have BK153 := n2_; have BK154 := n3_; have BK161 := n4_; have HB := n5_; clear n0_ n1_ n2_ n3_ n4_ n5_; (try clear hb); (try clear hb2); (try clear hk); (try clear hi); have hcz34_0 : w33.cell? ⟨gb161, 0, none⟩ = some (.slice Ao31 x162000_1.length co31) := (blk_cell BK161.out 0).trans rfl; have hcz34_1 : w33.cell? ⟨gb161, 1, none⟩ = some (.slice Ao32 x162001_1.length co32) := (blk_cell BK161.out 1).trans rfl; have hfz34_0 := blk_frozen BK161.out 0; have hfz34_1 := blk_frozen BK161.out 1) | (go_at_call 86; (with_reducible refine (spec_l5Entry.calls k2 _ _ x162000_1 _ _ x162001_1 x7_2 x6_1 t163 _ ?side1 ?side2 ?side3 ?side4 A18.out).mono ?_); (case side1 => repeat (first | exact (Kd.R_reads' HO_162000.out).2.2 | (with_reducible refine Kd.C_alloc ?_ _) | (with_reducible refine Kd.C_drewN ?_ _) | (with_reducible refine Kd.C_drew ?_))); (case side2 => exact (Kd.R_reads' HO_162000.out).2.1); (case side3 => repeat (first | exact (Kd.S_reads' HO_162001.out).2.2 | (with_reducible refine Kd.C_alloc ?_ _) | (with_reducible refine Kd.C_drewN ?_ _) | (with_reducible refine Kd.C_drew ?_))); (case side4 => exact (Kd.S_reads' HO_162001.out).2.1); rintro e w35 ⟨rfl, hb⟩; have n0_ := Aside0.mk (Kd.R_below (by (with_reducible repeat (first | apply Kd.R_alloc | apply Kd.R_drewN | apply Kd.R_drew)); exact HO_162000.out) hb); have n1_ := Aside0.mk (Kd.S_below (by (with_reducible repeat (first | apply Kd.S_alloc | apply Kd.S_drewN | apply Kd.S_drew)); exact HO_162001.out) hb); have n2_ := Aside0.mk (blk_below (g := gb153) (o := .cells #[.slice A0_0 l0_0.length c0_0, .slice A0_1 l0_1.length c0_1] 34 (0, 0)) (by (with_reducible repeat (first | refine blk_drewN ?_ _ | refine blk_drew ?_ | refine blk_alloc ?_ _)); exact BK153.out) hb); have n3_ := Aside0.mk (blk_below (g := gb154) (o := .cells #[.slice none 0 0, .slice none 0 0] 34 (0, 0)) (by (with_reducible repeat (first | refine blk_drewN ?_ _ | refine blk_drew ?_ | refine blk_alloc ?_ _)); exact BK154.out) hb); have n4_ := Aside0.mk (blk_below (g := gb161) (o := .cells #[.slice Ao31 x162000_1.length co31, .slice Ao32 x162001_1.length co32] 34 (0, 0)) (by (with_reducible repeat (first | refine blk_drewN ?_ _ | refine blk_drew ?_ | refine blk_alloc ?_ _)); exact BK161.out) hb); have n5_ := Aside0.mk (below_step (by repeat (first | (with_reducible first | exact HB.out | apply below_alloc | apply pw_below_drewN | apply below_drew1 | refine below_set ?_ GE153.out | refine below_set ?_ GE154.out | refine below_set ?_ GE161.out) | exact HB.out)) hb); clear HO_162000; clear HO_162001; clear BK153; clear BK154; clear BK161; clear HB; have HO_162000 := n0_; have HO_162001 := n1_; have BK153 := n2_; have BK154 := n3_; have BK161 := n4_; have HB := n5_; clear n0_ n1_ n2_ n3_ n4_ n5_; (try clear hb); (try clear hb2); (try clear hk); (try clear hi)))
        go_meet
        case rel => exact ⟨_, (x7_2), (by first | rfl | (simp; done) | (simp [*]; done)), H', ⟨by have := HK1.out; have := HK2.out; first | omega | exact Nat.le_refl _⟩, ⟨by (with_reducible repeat (first | apply Kd.R_alloc | apply Kd.R_drewN | apply Kd.R_drew)); exact HO_162000.out⟩, ⟨by (with_reducible repeat (first | apply Kd.S_alloc | apply Kd.S_drewN | apply Kd.S_drew)); exact HO_162001.out⟩, ⟨by (with_reducible repeat (first | refine blk_drewN ?_ _ | refine blk_drew ?_ | refine blk_alloc ?_ _)); exact BK153.out⟩, ⟨by (with_reducible repeat (first | refine blk_drewN ?_ _ | refine blk_drew ?_ | refine blk_alloc ?_ _)); exact BK154.out⟩, ⟨by (with_reducible repeat (first | refine blk_drewN ?_ _ | refine blk_drew ?_ | refine blk_alloc ?_ _)); exact BK161.out⟩, ⟨by repeat (first | (with_reducible first | exact HB.out | apply below_alloc | apply pw_below_drewN | apply below_drew1 | refine below_set ?_ GE153.out | refine below_set ?_ GE154.out | refine below_set ?_ GE161.out) | exact HB.out)⟩⟩
      ·rw [if_neg c17] at H
       have c17b0 : decide (0 < t162) = false := decide_eq_false c17
       clear c17
       (first | rw [c17b0] | (simp only [i64_w, i32_w]; rw [c17b0]) | skip)
       have H' := Aside0.mk H
       clear H
       have hnb36 := NB161_153.out
       have hnc36 := NB153_161.out
       have hnb37 := NB161_154.out
       have hnc37 := NB154_161.out
       have hcz38_0 : wr.cell? ⟨gb161, 0, none⟩ = some (u162000) := (blk_cell BK161.out 0).trans rfl
       have hcz38_1 : wr.cell? ⟨gb161, 1, none⟩ = some (u162001) := (blk_cell BK161.out 1).trans rfl
       have hfz38_0 := blk_frozen BK161.out 0
       have hfz38_1 := blk_frozen BK161.out 1
       obtain ⟨Ao39, co39, eo39⟩ := Kd.R_slice HO_162000.out
       subst eo39
       obtain ⟨Ao40, co40, eo40⟩ := Kd.S_slice HO_162001.out
       subst eo40
       go_wp2_with (first | ((with_reducible refine gate_callee (f := 86) rfl ?_); refine zG (some 16) Try.func86 #[.agg #[.slice Ao39 x162000_1.length co39, .slice Ao40 x162001_1.length co40], .int .i64 x7_2, .int .i64 x6_1] ?_; (with_reducible refine (spec_l5Entry.calls k2 _ _ x162000_1 _ _ x162001_1 x7_2 x6_1 t162 _ ?side1 ?side2 ?side3 ?side4 A16.out).mono ?_); (case side1 => repeat (first | exact (Kd.R_reads' HO_162000.out).2.2 | (with_reducible refine Kd.C_alloc ?_ _) | (with_reducible refine Kd.C_drewN ?_ _) | (with_reducible refine Kd.C_drew ?_))); (case side2 => exact (Kd.R_reads' HO_162000.out).2.1); (case side3 => repeat (first | exact (Kd.S_reads' HO_162001.out).2.2 | (with_reducible refine Kd.C_alloc ?_ _) | (with_reducible refine Kd.C_drewN ?_ _) | (with_reducible refine Kd.C_drew ?_))); (case side4 => exact (Kd.S_reads' HO_162001.out).2.1); rintro e w41 ⟨rfl, hb⟩; refine ⟨_, rfl, ?_⟩; have n0_ := Aside0.mk (Kd.R_below (by (with_reducible repeat (first | apply Kd.R_alloc | apply Kd.R_drewN | apply Kd.R_drew)); exact HO_162000.out) hb); have n1_ := Aside0.mk (Kd.S_below (by (with_reducible repeat (first | apply Kd.S_alloc | apply Kd.S_drewN | apply Kd.S_drew)); exact HO_162001.out) hb); have n2_ := Aside0.mk (blk_below (g := gb153) (o := .cells #[.slice A0_0 l0_0.length c0_0, .slice A0_1 l0_1.length c0_1] 34 (0, 0)) (by (with_reducible repeat (first | refine blk_drewN ?_ _ | refine blk_drew ?_ | refine blk_alloc ?_ _)); exact BK153.out) hb); have n3_ := Aside0.mk (blk_below (g := gb154) (o := .cells #[.slice none 0 0, .slice none 0 0] 34 (0, 0)) (by (with_reducible repeat (first | refine blk_drewN ?_ _ | refine blk_drew ?_ | refine blk_alloc ?_ _)); exact BK154.out) hb); have n4_ := Aside0.mk (blk_below (g := gb161) (o := .cells #[.slice Ao39 x162000_1.length co39, .slice Ao40 x162001_1.length co40] 34 (0, 0)) (by (with_reducible repeat (first | refine blk_drewN ?_ _ | refine blk_drew ?_ | refine blk_alloc ?_ _)); exact BK161.out) hb); have n5_ := Aside0.mk (below_step (by repeat (first | (with_reducible first | exact HB.out | apply below_alloc | apply pw_below_drewN | apply below_drew1 | refine below_set ?_ GE153.out | refine below_set ?_ GE154.out | refine below_set ?_ GE161.out) | exact HB.out)) hb); clear HO_162000; clear HO_162001; clear BK153; clear BK154; clear BK161; clear HB; have HO_162000 := n0_; have HO_162001 := n1_; have BK153 := n2_; have BK154 := n3_; have BK161 := n4_; have HB := n5_; clear n0_ n1_ n2_ n3_ n4_ n5_; (try clear hb); (try clear hb2); (try clear hk); (try clear hi)))
       go_meet
       case rel => exact ⟨_, (x7_2), (by first | rfl | (simp; done) | (simp [*]; done)), H', ⟨by have := HK1.out; have := HK2.out; first | omega | exact Nat.le_refl _⟩, ⟨by (with_reducible repeat (first | apply Kd.R_alloc | apply Kd.R_drewN | apply Kd.R_drew)); exact HO_162000.out⟩, ⟨by (with_reducible repeat (first | apply Kd.S_alloc | apply Kd.S_drewN | apply Kd.S_drew)); exact HO_162001.out⟩, ⟨by (with_reducible repeat (first | refine blk_drewN ?_ _ | refine blk_drew ?_ | refine blk_alloc ?_ _)); exact BK153.out⟩, ⟨by (with_reducible repeat (first | refine blk_drewN ?_ _ | refine blk_drew ?_ | refine blk_alloc ?_ _)); exact BK154.out⟩, ⟨by (with_reducible repeat (first | refine blk_drewN ?_ _ | refine blk_drew ?_ | refine blk_alloc ?_ _)); exact BK161.out⟩, ⟨by repeat (first | (with_reducible first | exact HB.out | apply below_alloc | apply pw_below_drewN | apply below_drew1 | refine below_set ?_ GE153.out | refine below_set ?_ GE154.out | refine below_set ?_ GE161.out) | exact HB.out)⟩⟩
   case rest =>
    clear HC15
    try clear c1
    try clear c2
    try clear p2
    try clear c3
    try clear c6
    try clear p6
    try clear c8
    try clear c11
    try clear c12
    try clear c17
    try clear c17b0
    try clear c19
    try clear c19b0
    try clear c20
    try clear c21
    try clear c28
    try clear c29
    try clear c36
    try clear c37
    try clear hcz13_0
    try clear hcz13_1
    try clear hcz22_0
    try clear hcz22_1
    try clear hcz26_0
    try clear hcz26_1
    try clear hcz30_0
    try clear hcz30_1
    try clear hcz34_0
    try clear hcz34_1
    try clear hcz38_0
    try clear hcz38_1
    try clear hcz7_0
    try clear hcz7_1
    try clear hfz13_0
    try clear hfz13_1
    try clear hfz22_0
    try clear hfz22_1
    try clear hfz26_0
    try clear hfz26_1
    try clear hfz30_0
    try clear hfz30_1
    try clear hfz34_0
    try clear hfz34_1
    try clear hfz38_0
    try clear hfz38_1
    try clear hfz7_0
    try clear hfz7_1
    try clear p2
    obtain ⟨kq, x7_14, rfl, HA, HJ14, HO_162000, HO_162001, BK153, BK154, BK161, HB⟩ := hcut
    cases kq with
    | zero => exact absurd HA.out (by simp [spec_l17Column.j2])
    | succ kj14 =>
     have H := HA.out
     clear HA
     simp only [spec_l17Column.j2] at H
     replace H := Option.bind_eq_some_iff.mp H
     obtain ⟨t164, A420, H⟩ := H
     replace H : (if t164 = 0 then (if x7_14 = (x162001_1.length : Int) then (if x162001_1.length < 5864062014805 then ((some (x162001_1 ++ [(([] : List Int))] : List (List Int))).bind fun y168 => (if 0 ≤ x7_14 then (if x7_14 < (y168.length : Int) then (if (rd_L1 y168 x7_14).length < 17592186044416 then (some (x162000_1, (y168.set (x7_14 : Int).toNat ((rd_L1 y168 x7_14) ++ [x1_1])))) else (none)) else (none)) else (none))) else (none)) else (if 0 ≤ x7_14 then (if x7_14 < (x162001_1.length : Int) then (if (rd_L1 x162001_1 x7_14).length < 17592186044416 then (some (x162000_1, (x162001_1.set (x7_14 : Int).toNat ((rd_L1 x162001_1 x7_14) ++ [x1_1])))) else (none)) else (none)) else (none))) else (if 0 ≤ x7_14 then (if x7_14 < (x162001_1.length : Int) then (if 0 ≤ x6_1 then (if x6_1 < ((rd_L1 x162001_1 x7_14).length : Int) then (spec_l17Column.l0 kj14 t164 (wrap64 (x6_1 + 1)) x162000_1 (x162001_1.set (x7_14 : Int).toNat ((rd_L1 x162001_1 x7_14).set (x6_1 : Int).toNat x1_1))) else (none)) else (none)) else (none)) else (none))) = some (r1, r2) := H
     have A42 := Aside0.mk A420
     clear A420
     by_cases c43 : t164 = 0
     ·rw [if_pos c43] at H
      have c43b0 : (t164 == 0) = true := beq_iff_eq.mpr c43
      have c43b1 : (t164 != 0) = false := bne_eq_false_iff_eq.mpr c43
      clear c43
      by_cases c44 : x7_14 = (x162001_1.length : Int)
      ·rw [if_pos c44] at H
       have c44b0 : (x7_14 == (x162001_1.length : Int)) = true := beq_iff_eq.mpr c44
       have c44b1 : (x7_14 != (x162001_1.length : Int)) = false := bne_eq_false_iff_eq.mpr c44
       clear c44
       obtain ⟨y165, hy165⟩ : ∃ y_ : List Int, y_ = (([] : List Int)) := ⟨_, rfl⟩
       replace H : (if x162001_1.length < 5864062014805 then ((some (x162001_1 ++ [y165] : List (List Int))).bind fun y168 => (if 0 ≤ x7_14 then (if x7_14 < (y168.length : Int) then (if (rd_L1 y168 x7_14).length < 17592186044416 then (some (x162000_1, (y168.set (x7_14 : Int).toNat ((rd_L1 y168 x7_14) ++ [x1_1])))) else (none)) else (none)) else (none))) else (none)) = some (r1, r2) := by first | (rw [hy165]; with_reducible exact H) | (have H2_ := (Option.bind_some _ _).symm.trans H; rw [hy165]; with_reducible exact H2_) | (have H2_ := (Option.bind_some _ _).symm.trans H; with_reducible exact H2_) | with_reducible exact H | (rw [hy165]; exact H) | exact H
       have Ny165 := Aside0.mk hy165
       clear hy165
       by_cases c45 : x162001_1.length < 5864062014805
       ·rw [if_pos c45] at H
        have LMc45 := Aside0.mk c45
        clear c45
        obtain ⟨y168, hy168⟩ : ∃ y_ : List (List Int), y_ = (x162001_1 ++ [y165]) := ⟨_, rfl⟩
        replace H : (if 0 ≤ x7_14 then (if x7_14 < (y168.length : Int) then (if (rd_L1 y168 x7_14).length < 17592186044416 then (some (x162000_1, (y168.set (x7_14 : Int).toNat ((rd_L1 y168 x7_14) ++ [x1_1])))) else (none)) else (none)) else (none)) = some (r1, r2) := by first | (rw [hy168]; with_reducible exact H) | (have H2_ := (Option.bind_some _ _).symm.trans H; rw [hy168]; with_reducible exact H2_) | (have H2_ := (Option.bind_some _ _).symm.trans H; with_reducible exact H2_) | with_reducible exact H | (rw [hy168]; exact H) | exact H
        have Ny168 := Aside0.mk hy168
        clear hy168
        by_cases c46 : 0 ≤ x7_14
        ·rw [if_pos c46] at H
         have c46b0 : decide (0 ≤ x7_14) = true := decide_eq_true c46
         clear c46
         by_cases c47 : x7_14 < (y168.length : Int)
         ·rw [if_pos c47] at H
          have c47b0 : decide (x7_14 < (y168.length : Int)) = true := decide_eq_true c47
          clear c47
          by_cases c48 : (rd_L1 y168 x7_14).length < 17592186044416
          ·rw [if_pos c48] at H
           have LMc48 := Aside0.mk c48
           clear c48
           obtain ⟨y172, hy172⟩ : ∃ y_ : List Int, y_ = ((rd_L1 y168 x7_14) ++ [x1_1]) := ⟨_, rfl⟩
           replace H : (some (x162000_1, (y168.set (x7_14 : Int).toNat y172))) = some (r1, r2) := by first | (rw [hy172]; with_reducible exact H) | (have H2_ := (Option.bind_some _ _).symm.trans H; rw [hy172]; with_reducible exact H2_) | (have H2_ := (Option.bind_some _ _).symm.trans H; with_reducible exact H2_) | with_reducible exact H | (rw [hy172]; exact H) | exact H
           have Ny172 := Aside0.mk hy172
           clear hy172
           obtain ⟨y175, hy175⟩ : ∃ y_ : List (List Int), y_ = (y168.set (x7_14 : Int).toNat y172) := ⟨_, rfl⟩
           replace H : (some (x162000_1, y175)) = some (r1, r2) := by first | (rw [hy175]; with_reducible exact H) | (have H2_ := (Option.bind_some _ _).symm.trans H; rw [hy175]; with_reducible exact H2_) | (have H2_ := (Option.bind_some _ _).symm.trans H; with_reducible exact H2_) | with_reducible exact H | (rw [hy175]; exact H) | exact H
           have Ny175 := Aside0.mk hy175
           clear hy175
           simp only [Option.some.injEq, Prod.mk.injEq] at H
           obtain ⟨rfl, rfl⟩ := H
           have hnb50 := NB161_153.out
           have hnc50 := NB153_161.out
           have hnb51 := NB161_154.out
           have hnc51 := NB154_161.out
           have hcz52_0 : wc.cell? ⟨gb161, 0, none⟩ = some (u162000) := (blk_cell BK161.out 0).trans rfl
           have hcz52_1 : wc.cell? ⟨gb161, 1, none⟩ = some (u162001) := (blk_cell BK161.out 1).trans rfl
           have hfz52_0 := blk_frozen BK161.out 0
           have hfz52_1 := blk_frozen BK161.out 1
           obtain ⟨Ao53, co53, eo53⟩ := Kd.R_slice HO_162000.out
           subst eo53
           obtain ⟨Ao54, co54, eo54⟩ := Kd.S_slice HO_162001.out
           subst eo54
           try go_wp2_with (first | ((with_reducible refine gate_callee (f := 86) rfl ?_); refine zG (some 31) Try.func86 #[.agg #[.slice Ao53 x162000_1.length co53, .slice Ao54 x162001_1.length co54], .int .i64 x7_14, .int .i64 x6_1] ?_; (with_reducible refine (spec_l5Entry.calls kj14 _ _ x162000_1 _ _ x162001_1 x7_14 x6_1 t164 _ ?side1 ?side2 ?side3 ?side4 A42.out).mono ?_); (case side1 => repeat (first | exact (Kd.R_reads' HO_162000.out).2.2 | (with_reducible refine Kd.C_alloc ?_ _) | (with_reducible refine Kd.C_drewN ?_ _) | (with_reducible refine Kd.C_drew ?_))); (case side2 => exact (Kd.R_reads' HO_162000.out).2.1); (case side3 => repeat (first | exact (Kd.S_reads' HO_162001.out).2.2 | (with_reducible refine Kd.C_alloc ?_ _) | (with_reducible refine Kd.C_drewN ?_ _) | (with_reducible refine Kd.C_drew ?_))); (case side4 => exact (Kd.S_reads' HO_162001.out).2.1); rintro e w55 ⟨rfl, hb⟩; refine ⟨_, rfl, ?_⟩; have n0_ := Aside0.mk (Kd.R_below (by (with_reducible repeat (first | apply Kd.R_alloc | apply Kd.R_drewN | apply Kd.R_drew)); exact HO_162000.out) hb); have n1_ := Aside0.mk (Kd.S_below (by (with_reducible repeat (first | apply Kd.S_alloc | apply Kd.S_drewN | apply Kd.S_drew)); exact HO_162001.out) hb); have n2_ := Aside0.mk (blk_below (g := gb153) (o := .cells #[.slice A0_0 l0_0.length c0_0, .slice A0_1 l0_1.length c0_1] 34 (0, 0)) (by (with_reducible repeat (first | refine blk_drewN ?_ _ | refine blk_drew ?_ | refine blk_alloc ?_ _)); exact BK153.out) hb); have n3_ := Aside0.mk (blk_below (g := gb154) (o := .cells #[.slice none 0 0, .slice none 0 0] 34 (0, 0)) (by (with_reducible repeat (first | refine blk_drewN ?_ _ | refine blk_drew ?_ | refine blk_alloc ?_ _)); exact BK154.out) hb); have n4_ := Aside0.mk (blk_below (g := gb161) (o := .cells #[.slice Ao53 x162000_1.length co53, .slice Ao54 x162001_1.length co54] 34 (0, 0)) (by (with_reducible repeat (first | refine blk_drewN ?_ _ | refine blk_drew ?_ | refine blk_alloc ?_ _)); exact BK161.out) hb); have n5_ := Aside0.mk (below_step (by repeat (first | (with_reducible first | exact HB.out | apply below_alloc | apply pw_below_drewN | apply below_drew1 | refine below_set ?_ GE153.out | refine below_set ?_ GE154.out | refine below_set ?_ GE161.out) | exact HB.out)) hb); clear HO_162000; clear HO_162001; clear BK153; clear BK154; clear BK161; clear HB; have HO_162000 := n0_; have HO_162001 := n1_; have BK153 := n2_; have BK154 := n3_; have BK161 := n4_; have HB := n5_; clear n0_ n1_ n2_ n3_ n4_ n5_; (try clear hb); (try clear hb2); (try clear hk); (try clear hi); have hcz56_0 : w55.cell? ⟨gb161, 0, none⟩ = some (.slice Ao53 x162000_1.length co53) := (blk_cell BK161.out 0).trans rfl; have hcz56_1 : w55.cell? ⟨gb161, 1, none⟩ = some (.slice Ao54 x162001_1.length co54) := (blk_cell BK161.out 1).trans rfl; have hfz56_0 := blk_frozen BK161.out 0; have hfz56_1 := blk_frozen BK161.out 1) | ((with_reducible refine gate_dst (N := 41) rfl ?_); refine Kd.R_lit (Kd.int .i64) _ 3 ?hg (N := 41) ?hd (xs := ([] : List Int)) (inner := []) (ok := fun _ => True) (okp := fun _ => True) ?hr ?hp (fun _ hk => hk) trivial (Below.refl _ _) (Nat.le_refl _) (by simp) ?_; (case hd => rfl); (case hg => rfl); (case hr => first | (go_simp; done) | (go_simp; rfl)); (case hp => exact (Reps.none _ _)); intro v166 w57 ho58 hb hg_ hnew_; clear hg_ hnew_; (first | rw [← Ny165.out] at ho58 | (simp only [Int.reduceToNat] at ho58; rw [← Ny165.out] at ho58)); have n0_ := Aside0.mk (Kd.R_elder' (by (with_reducible repeat (first | apply Kd.R_alloc | apply Kd.R_drewN | apply Kd.R_drew)); exact HO_162000.out) (Kd.R_base ho58) hb); have n1_ := Aside0.mk (Kd.S_elder' (by (with_reducible repeat (first | apply Kd.S_alloc | apply Kd.S_drewN | apply Kd.S_drew)); exact HO_162001.out) (Kd.R_base ho58) hb); have n2_ := Aside0.mk (Kd.R_lower (Kd.R_new' ho58 (Kd.R_lt (by (with_reducible repeat (first | apply Kd.R_alloc | apply Kd.R_drewN | apply Kd.R_drew)); exact HO_162000.out))) (below_size (by repeat (first | (with_reducible first | exact HB.out | apply below_alloc | apply pw_below_drewN | apply below_drew1 | refine below_set ?_ GE153.out | refine below_set ?_ GE154.out | refine below_set ?_ GE161.out) | exact HB.out)))); have n3_ := Aside0.mk (blk_below (g := gb153) (o := .cells #[.slice A0_0 l0_0.length c0_0, .slice A0_1 l0_1.length c0_1] 34 (0, 0)) (by (with_reducible repeat (first | refine blk_drewN ?_ _ | refine blk_drew ?_ | refine blk_alloc ?_ _)); exact BK153.out) hb); have n4_ := Aside0.mk (blk_below (g := gb154) (o := .cells #[.slice none 0 0, .slice none 0 0] 34 (0, 0)) (by (with_reducible repeat (first | refine blk_drewN ?_ _ | refine blk_drew ?_ | refine blk_alloc ?_ _)); exact BK154.out) hb); have n5_ := Aside0.mk (blk_below (g := gb161) (o := .cells #[.slice Ao53 x162000_1.length co53, .slice Ao54 x162001_1.length co54] 34 (0, 0)) (by (with_reducible repeat (first | refine blk_drewN ?_ _ | refine blk_drew ?_ | refine blk_alloc ?_ _)); exact BK161.out) hb); have n6_ := Aside0.mk (below_step (by repeat (first | (with_reducible first | exact HB.out | apply below_alloc | apply pw_below_drewN | apply below_drew1 | refine below_set ?_ GE153.out | refine below_set ?_ GE154.out | refine below_set ?_ GE161.out) | exact HB.out)) hb); clear HO_162000; clear HO_162001; clear BK153; clear BK154; clear BK161; clear HB; have HO_162000 := n0_; have HO_162001 := n1_; have HO167 := n2_; have BK153 := n3_; have BK154 := n4_; have BK161 := n5_; have HB := n6_; clear n0_ n1_ n2_ n3_ n4_ n5_ n6_; clear hb ho58; obtain ⟨Ao60, co60, eo60⟩ := Kd.R_slice HO167.out; subst eo60) | ((with_reducible refine gate_builtin (b := .append) (xs := #[.tmp 40, .tmp 42]) rfl ?_); at_builtin; refine Kd.S_append (Kd.slice 3 (Kd.int .i64)) (w0 := w) w.heap.size rfl (.tmp 40) (.tmp 42) 32 24 (.slice none 0 0) 24 rfl Try.underlying32 info24 rfl (by decide) (by omega) (.slice Ao54 x162001_1.length co54) x162001_1 y165 [.slice Ao60 y165.length co60] (fun k_ => some k_ ≠ (.slice Ao53 x162000_1.length co53 : Value).ownBlock) (fun k_ => some k_ = (.slice Ao60 y165.length co60 : Value).ownBlock) rfl rfl ?aP (fun k_ hk_ => ((Kd.R_mono (ok' := fun k_ => ((fun k_ => some k_ ≠ (.slice Ao53 x162000_1.length co53 : Value).ownBlock)) k_ ∧ some k_ ≠ (.slice Ao54 x162001_1.length co54 : Value).ownBlock) (Kd.R_apart' (HO167.out) (Kd.S_typed HO_162001.out) (by decide)) (fun k_ hk => ⟨hk.1.2, hk.2⟩))).1 k_ hk_.symm) ?aF ?aO ?aB ?aS ?aL ?_; (case aP => exact Kd.M_row (Kd.R_mono (Kd.R_tight rfl (Kd.R_mono (ok' := fun k_ => ((fun k_ => some k_ ≠ (.slice Ao53 x162000_1.length co53 : Value).ownBlock)) k_ ∧ some k_ ≠ (.slice Ao54 x162001_1.length co54 : Value).ownBlock) (Kd.R_apart' (HO167.out) (Kd.S_typed HO_162001.out) (by decide)) (fun k_ hk => ⟨hk.1.2, hk.2⟩))) (fun _ h_ => h_))); (case aB => exact (by repeat (first | (with_reducible first | exact HB.out | apply below_alloc | apply pw_below_drewN | apply below_drew1 | refine below_set ?_ GE153.out | refine below_set ?_ GE154.out | refine below_set ?_ GE161.out) | exact HB.out))); (case aF => exact (fun k_ hk => Kd.fresh' (Kd.R_lt (by (with_reducible repeat (first | apply Kd.R_alloc | apply Kd.R_drewN | apply Kd.R_drew)); exact HO_162000.out)) k_ hk)); (case aO => exact (by (with_reducible repeat (first | apply Kd.S_alloc | apply Kd.S_drewN | apply Kd.S_drew)); exact Kd.S_mono HO_162001.out (fun k_ hk => ⟨hk.1, fun e_ => hk.2 e_⟩))); (case aS => exact (below_size (by repeat (first | (with_reducible first | exact HB.out | apply below_alloc | apply pw_below_drewN | apply below_drew1 | refine below_set ?_ GE153.out | refine below_set ?_ GE154.out | refine below_set ?_ GE161.out) | exact HB.out)))); (case aL => have := LMc45.out; omega); intro v169 w59 ho hb hg hat; rw [← Ny168.out] at ho; have n0_ := Aside0.mk (Kd.R_over' (by (with_reducible repeat (first | apply Kd.R_alloc | apply Kd.R_drewN | apply Kd.R_drew)); exact HO_162000.out) (Kd.S_typed (by (with_reducible repeat (first | apply Kd.S_alloc | apply Kd.S_drewN | apply Kd.S_drew)); exact HO_162001.out)) (by decide) hg); have n1_ := Aside0.mk (blk_grown (g := gb153) (o := .cells #[.slice A0_0 l0_0.length c0_0, .slice A0_1 l0_1.length c0_1] 34 (0, 0)) (by (with_reducible repeat (first | refine blk_drewN ?_ _ | refine blk_drew ?_ | refine blk_alloc ?_ _)); exact BK153.out) hg (Kd.S_ne HO_162001.out BK153.out (by decide))); have n2_ := Aside0.mk (blk_grown (g := gb154) (o := .cells #[.slice none 0 0, .slice none 0 0] 34 (0, 0)) (by (with_reducible repeat (first | refine blk_drewN ?_ _ | refine blk_drew ?_ | refine blk_alloc ?_ _)); exact BK154.out) hg (Kd.S_ne HO_162001.out BK154.out (by decide))); have n3_ := Aside0.mk (blk_grown (g := gb161) (o := .cells #[.slice Ao53 x162000_1.length co53, .slice Ao54 x162001_1.length co54] 34 (0, 0)) (by (with_reducible repeat (first | refine blk_drewN ?_ _ | refine blk_drew ?_ | refine blk_alloc ?_ _)); exact BK161.out) hg (Kd.S_ne HO_162001.out BK161.out (by decide))); have n4_ := Aside0.mk (hb); have n5_ := Aside0.mk (ho); clear HO_162000; clear BK153; clear BK154; clear BK161; clear HB; clear HO_162001; clear HO167; have HO_162000 := n0_; have BK153 := n1_; have BK154 := n2_; have BK161 := n3_; have HB := n4_; have HO170 := n5_; clear n0_ n1_ n2_ n3_ n4_ n5_; clear ho hb hg hat; obtain ⟨Ao61, co61, eo61⟩ := Kd.S_slice HO170.out; subst eo61; have hcz62_0 : w59.cell? ⟨gb161, 0, none⟩ = some (.slice Ao53 x162000_1.length co53) := (blk_cell BK161.out 0).trans rfl; have hcz62_1 : w59.cell? ⟨gb161, 1, none⟩ = some (.slice Ao54 x162001_1.length co54) := (blk_cell BK161.out 1).trans rfl; have hfz62_0 := blk_frozen BK161.out 0; have hfz62_1 := blk_frozen BK161.out 1))
           have n0_ : Aside0 (Kd.R (Kd.int .i64) 3 (w59.setCell ⟨gb161, 1, none⟩ (.slice Ao61 y168.length co61)) w.heap.size (fun _ => True) (.slice Ao53 x162000_1.length co53) x162000_1) := ⟨by (with_reducible repeat (first | apply Kd.R_alloc | apply Kd.R_drewN | apply Kd.R_drew)); exact Kd.R_mono (Kd.R_far (p := ⟨gb161, 1, none⟩) (Kd.R_types HO_162000.out BK161.out (by decide)) (fun _ hk => hk.2) (.slice Ao61 y168.length co61)) (fun _ hk => trivial)⟩
           have n1_ : Aside0 (Kd.S (Kd.slice 3 (Kd.int .i64)) 24 (w59.setCell ⟨gb161, 1, none⟩ (.slice Ao61 y168.length co61)) w.heap.size (fun k_ => some k_ ≠ (.slice Ao53 x162000_1.length co53 : Value).ownBlock) (.slice Ao61 y168.length co61) y168) := ⟨by (with_reducible repeat (first | apply Kd.S_alloc | apply Kd.S_drewN | apply Kd.S_drew)); exact Kd.S_mono (Kd.S_far (p := ⟨gb161, 1, none⟩) (Kd.S_types HO170.out BK161.out (by decide)) (fun _ hk => hk.2) (.slice Ao61 y168.length co61)) (fun _ hk => hk.1)⟩
           have n2_ : Aside0 ((w59.setCell ⟨gb161, 1, none⟩ (.slice Ao61 y168.length co61)).heap[gb153]? = some (.cells #[.slice A0_0 l0_0.length c0_0, .slice A0_1 l0_1.length c0_1] 34 (0, 0))) := ⟨by (with_reducible repeat (first | refine blk_drewN ?_ _ | refine blk_drew ?_ | refine blk_alloc ?_ _)); refine blk_far ?_ NB153_161.out _; (with_reducible repeat (first | refine blk_drewN ?_ _ | refine blk_drew ?_ | refine blk_alloc ?_ _)); exact BK153.out⟩
           have n3_ : Aside0 ((w59.setCell ⟨gb161, 1, none⟩ (.slice Ao61 y168.length co61)).heap[gb154]? = some (.cells #[.slice none 0 0, .slice none 0 0] 34 (0, 0))) := ⟨by (with_reducible repeat (first | refine blk_drewN ?_ _ | refine blk_drew ?_ | refine blk_alloc ?_ _)); refine blk_far ?_ NB154_161.out _; (with_reducible repeat (first | refine blk_drewN ?_ _ | refine blk_drew ?_ | refine blk_alloc ?_ _)); exact BK154.out⟩
           have n4_ : Aside0 ((w59.setCell ⟨gb161, 1, none⟩ (.slice Ao61 y168.length co61)).heap[gb161]? = some (.cells #[.slice Ao53 x162000_1.length co53, .slice Ao61 y168.length co61] 34 (0, 0))) := ⟨by (with_reducible repeat (first | refine blk_drewN ?_ _ | refine blk_drew ?_ | refine blk_alloc ?_ _)); refine blk_put (cs := #[.slice Ao53 x162000_1.length co53, .slice Ao54 x162001_1.length co54]) ?_ 1 _ rfl; (with_reducible repeat (first | refine blk_drewN ?_ _ | refine blk_drew ?_ | refine blk_alloc ?_ _)); exact BK161.out⟩
           have n5_ : Aside0 (Below w.heap.size w (w59.setCell ⟨gb161, 1, none⟩ (.slice Ao61 y168.length co61))) := ⟨by repeat (first | (with_reducible first | exact HB.out | apply below_alloc | apply pw_below_drewN | apply below_drew1 | refine below_set ?_ GE153.out | refine below_set ?_ GE154.out | refine below_set ?_ GE161.out) | exact HB.out)⟩
           (try clear HO_162000)
           (try clear HO170)
           (try clear BK153)
           (try clear BK154)
           (try clear BK161)
           (try clear HB)
           generalize (w59.setCell ⟨gb161, 1, none⟩ (.slice Ao61 y168.length co61)) = w63 at n0_ n1_ n2_ n3_ n4_ n5_ ⊢
           have HO_162000 := n0_
           have HO170 := n1_
           have BK153 := n2_
           have BK154 := n3_
           have BK161 := n4_
           have HB := n5_
           clear n0_ n1_ n2_ n3_ n4_ n5_
           have n0_ := Aside0.mk (Kd.R_drew HO_162000.out)
           have n1_ := Aside0.mk (Kd.S_drew HO170.out)
           have n2_ := Aside0.mk (blk_drew BK153.out)
           have n3_ := Aside0.mk (blk_drew BK154.out)
           have n4_ := Aside0.mk (blk_drew BK161.out)
           have n5_ := Aside0.mk (below_drew1 HB.out)
           clear HO_162000
           clear HO170
           clear BK153
           clear BK154
           clear BK161
           clear HB
           have HO_162000 := n0_
           have HO170 := n1_
           have BK153 := n2_
           have BK154 := n3_
           have BK161 := n4_
           have HB := n5_
           clear n0_ n1_ n2_ n3_ n4_ n5_
           have p171 : 0 ≤ (x7_14 : Int) := of_decide_eq_true (by first | (with_reducible assumption) | assumption)
           have q171 : x7_14 < (y168.length : Int) := of_decide_eq_true (by first | (with_reducible assumption) | assumption)
           obtain ⟨ad171, A171_0, c171_0, e171, hx171_0, hl171_0, hi171_0⟩ := at_L1 (Kd.S_reads' HO170.out).2.2 x7_14 p171 q171
           cases e171
           obtain ⟨ce171, hce171, hMe171, hcc171⟩ := Kd.S_get HO170.out [] x7_14 p171 (by first | exact q171 | exact of_decide_eq_true (by first | (with_reducible assumption) | assumption) | (have e_ := (Kd.S_reads' HO170.out).1; omega))
           obtain ⟨ve171_0, rfl, ge171_0⟩ := hMe171
           have hv171_0 := hcc171 0 _ rfl
           rw [Nat.add_zero, show ((Kd.slice 3 (Kd.int .i64))).sz = 1 from rfl, Nat.mul_one] at hv171_0
           replace hv171_0 := Option.some.inj (hv171_0.symm.trans hx171_0)
           rw [hv171_0] at ge171_0
           have HL171_0 := Aside0.mk (show Kd.R (Kd.int .i64) 3 _ _ _ _ (rd_L1 y168 x7_14) from ge171_0)
           clear hv171_0 ge171_0
           have HX171_0 := Aside0.mk hx171_0
           clear hcc171 hce171
           have HR171_0 := Aside0.mk hi171_0
           have HC171_0 := Aside0.mk hl171_0
           clear hi171_0 hl171_0
           replace p171 := eq_true p171
           replace q171 := eq_true q171
           obtain ⟨go65, co65, eo65, gb65, gl65, cl65, HG65⟩ := Kd.S_form HO170.out (by have h_ : (x7_14 : Int) < ((y168.length : Int) : Int) := of_decide_eq_true (by first | (with_reducible assumption) | assumption); have h2_ : 0 ≤ (x7_14 : Int) := (of_decide_eq_true (by first | (with_reducible assumption) | assumption)); omega)
           (first | cases eo65 | (injection eo65 with ea_ en_ ec_; (first | subst ea_ | (injection ea_ with ea_; subst ea_)); subst ec_; clear en_))
           have GB65 := Aside0.mk gb65
           have GG65 := Aside0.mk HG65
           clear gb65 gl65 HG65
           (first | simp only [add_plain] at hx171_0 | skip)
           obtain ⟨oki65, ce65, hcl65, hM65, hcc65, _, _, hH65⟩ := Kd.S_elem HO170.out [] (x7_14 : Int) (of_decide_eq_true (by first | (with_reducible assumption) | assumption)) (by have h_ : (x7_14 : Int) < ((y168.length : Int) : Int) := of_decide_eq_true (by first | (with_reducible assumption) | assumption); first | exact h_ | (have e_ := (Kd.S_reads' HO170.out).1; omega) | simpa using h_)
           obtain ⟨ve65_0, rfl, ge65_0⟩ := hM65
           have hv65 := hcc65 0 _ rfl
           have hX65 := HX171_0.out
           (try simp only [add_plain] at hX65)
           (try simp only [Nat.add_zero] at hv65)
           (try rw [show ((Kd.slice 3 (Kd.int .i64))).sz = 1 from rfl, Nat.mul_one] at hv65)
           replace hv65 := Option.some.inj (hv65.symm.trans hX65)
           subst hv65
           clear hX65 hcc65 hcl65
           have UU65 := Aside0.mk (show Kd.R (Kd.int .i64) 3 _ w.heap.size oki65 (.slice A171_0 (rd_L1 y168 x7_14).length c171_0) (rd_L1 y168 x7_14) from ge65_0)
           have HH65 := Aside0.mk hH65
           have HN65 := Aside0.mk (Kd.S_reads' HO170.out).1
           clear hH65 ge65_0
           refine start_ (n := 13) (S := fun w' => w'.cell? ⟨gb161, 0, none⟩ = some (.slice Ao53 x162000_1.length co53) ∧ w'.cell? ⟨gb161, 1, none⟩ = some (.slice (some ⟨go65, 0, none⟩) y168.length co61) ∧ w'.cell? ⟨go65, (x7_14).toNat, none⟩ = some (.slice A171_0 (rd_L1 y168 x7_14).length c171_0)) (ds := [12]) zB3_0 (by kernel_rfl) rfl rfl ⟨(blk_cell BK161.out 0).trans rfl, (blk_cell BK161.out 1).trans rfl, hx171_0⟩ (fun hHeld => ?_); refine with_tabW spec_l17Column.tab11 spec_l17Column.bits11 (fun HT_ HW_ => ?_)
           generalize w63.drew = w64 at HO_162000 HO170 BK153 BK154 BK161 HB GG65 HH65 HL171_0 HR171_0 HX171_0 UU65 hx171_0 hHeld ⊢
           refine zP (i := 0) (N := some 45) zB3_1 (any_of HT_.out (by kernel_rfl)) ?_
           refine zP (i := 2) (N := some 47) zB3_2 (any_of HT_.out (by kernel_rfl)) ?_
           refine zP (i := 3) (N := some 48) zB3_3 (any_of HT_.out (by kernel_rfl)) ?_
           refine zP (i := 5) (N := some 50) zB3_4 (any_of HT_.out (by kernel_rfl)) ?_
           refine zP (i := 8) (N := some 53) zB3_5 (any_of HT_.out (by kernel_rfl)) ?_
           refine zT3 (i := 1) (N := some 46) zB3_6 (take_ofW HT_.out HW_.out (by kernel_rfl)) hHeld ?_
           refine zT3 (i := 4) (N := some 49) zB3_7 (take_ofW HT_.out HW_.out (by kernel_rfl)) hHeld ?_
           refine zP (i := 6) (N := some 51) zB3_8 (any_of HT_.out (by kernel_rfl)) ?_
           refine zT3 (i := 7) (N := some 52) zB3_9 (take_ofW HT_.out HW_.out (by kernel_rfl)) hHeld ?_
           refine one_ (i := 9) (N := some 54) zB3_10 rfl rfl (one_of HT_.out (by kernel_rfl)) (by decide) (fun K hK => ?_)
           refine value_ (w1 := ?_) (v := ?_) (by rfl) rfl ?_ ?_
           rotate_left 2
           ·go_simp
            constructor
            ·rfl
            ·rfl
           refine hK.out _ _ ⟨(blk_cell (blk_alloc BK161.out _) 0).trans rfl, (blk_cell (blk_alloc BK161.out _) 1).trans rfl, (World.cell?_alloc_lt _ _ _ (World.block_lt_of_cell? _ _ (hHeld.2.2))).trans (hHeld.2.2)⟩ (fun hHeld => ?_)
           clear hK K
           refine norm_ (a' := ?_) ?_ ?_
           rotate_left
           ·show Act.put _ (some 54) _ = _
            simp only [Act.put, List.setIfInBounds_toArray, List.set_cons_zero, List.set_cons_succ, i64_w, i32_w]
            rfl
           refine one_ (i := 10) (N := some 55) zB3_11 rfl rfl (one_of HT_.out (by kernel_rfl)) (by decide) (fun K hK => ?_)
           refine Kd.R_append_step (Kd.int .i64) (w0 := w) w.heap.size (by rfl) (.tmp 52) (.tmp 54) 24 3 (.int .i64 0) 8 rfl Try.underlying24 info3 rfl (by decide) (by omega) (.slice A171_0 (rd_L1 y168 x7_14).length c171_0) (rd_L1 y168 x7_14) x1_1 [.int .i64 x1_1] (fun k_ => oki65 k_ ∨ ((fun k_ => some k_ ≠ (.slice Ao53 x162000_1.length co53 : Value).ownBlock)) k_ ∧ w64.heap.size ≤ k_) (fun _ => False) rfl rfl ?aP (fun _ hk => hk.elim) ?aF ?aO ?aB ?aS ?aL ?_
           (case aP => exact rfl)
           (case aB => exact (by repeat (first | (with_reducible first | exact HB.out | apply below_alloc | apply pw_below_drewN | apply below_drew1 | refine below_set ?_ GE153.out | refine below_set ?_ GE154.out | refine below_set ?_ GE161.out) | exact HB.out)))
           (case aF => exact (fun k_ hk => .inr ⟨Kd.fresh' (Kd.R_lt (by (with_reducible repeat (first | apply Kd.R_alloc | apply Kd.R_drewN | apply Kd.R_drew)); exact HO_162000.out)) k_ hk, hk⟩))
           (case aO => exact (by (with_reducible repeat (first | apply Kd.R_alloc | apply Kd.R_drewN | apply Kd.R_drew)); exact Kd.R_mono UU65.out (fun _ hk => .inl hk)))
           (case aS => exact (below_size (by repeat (first | (with_reducible first | exact HB.out | apply below_alloc | apply pw_below_drewN | apply below_drew1 | refine below_set ?_ GE153.out | refine below_set ?_ GE154.out | refine below_set ?_ GE161.out) | exact HB.out))))
           (case aL => have := LMc48.out; omega)
           intro v173 w66 ho hb hg hat
           (first | have HS2_ := cell_grown hg (hHeld.2.2) (by first | (rw [add_block]; exact (fun e_ => ((HL171_0.out.1 _ e_.symm).2) rfl)) | (show some (Addr.add _ _).block ≠ _; rw [add_block]; exact (fun e_ => ((HL171_0.out.1 _ e_.symm).2) rfl)) | exact (fun e_ => ((HL171_0.out.1 _ e_.symm).2) rfl)) | have HS2_ := cell_grown hg (cell_unalloc (hHeld.2.2) (by first | (rw [add_block]; exact Kd.S_lt HO170.out _ rfl) | (show (Addr.add _ _).block < _; rw [add_block]; exact Kd.S_lt HO170.out _ rfl) | exact Kd.S_lt HO170.out _ rfl)) (by first | (rw [add_block]; exact (fun e_ => ((HL171_0.out.1 _ e_.symm).2) rfl)) | (show some (Addr.add _ _).block ≠ _; rw [add_block]; exact (fun e_ => ((HL171_0.out.1 _ e_.symm).2) rfl)) | exact (fun e_ => ((HL171_0.out.1 _ e_.symm).2) rfl)))
           rw [← Ny172.out] at ho
           have n0_ := Aside0.mk (Kd.R_grown2 (by (with_reducible repeat (first | apply Kd.R_alloc | apply Kd.R_drewN | apply Kd.R_drew)); exact HO_162000.out) rfl hg (fun k_ e_ => (HL171_0.out.1 k_ e_).1))
           have n1_ := Aside0.mk (blk_grown (g := gb153) (o := .cells #[.slice A0_0 l0_0.length c0_0, .slice A0_1 l0_1.length c0_1] 34 (0, 0)) (by (with_reducible repeat (first | refine blk_drewN ?_ _ | refine blk_drew ?_ | refine blk_alloc ?_ _)); exact BK153.out) hg (Kd.R_ne HL171_0.out BK153.out (by decide)))
           have n2_ := Aside0.mk (blk_grown (g := gb154) (o := .cells #[.slice none 0 0, .slice none 0 0] 34 (0, 0)) (by (with_reducible repeat (first | refine blk_drewN ?_ _ | refine blk_drew ?_ | refine blk_alloc ?_ _)); exact BK154.out) hg (Kd.R_ne HL171_0.out BK154.out (by decide)))
           have n3_ := Aside0.mk (blk_grown (g := gb161) (o := .cells #[.slice Ao53 x162000_1.length co53, .slice (some ⟨go65, 0, none⟩) y168.length co61] 34 (0, 0)) (by (with_reducible repeat (first | refine blk_drewN ?_ _ | refine blk_drew ?_ | refine blk_alloc ?_ _)); exact BK161.out) hg (Kd.R_ne HL171_0.out BK161.out (by decide)))
           have n4_ := Aside0.mk (hb)
           have n5_ := Aside0.mk (Kd.H_grown (Kd.H_widen (by repeat (first | exact HH65.out | refine Kd.H_alloc ?_ _ | refine Kd.H_drewN ?_ _ | refine Kd.H_drew ?_))) hg (fun k_ e_ => .inl (UU65.out.1 k_ e_)))
           have n6_ := Aside0.mk (ho)
           clear HO_162000
           clear BK153
           clear BK154
           clear BK161
           clear HB
           clear HH65
           clear HO170
           clear UU65
           clear HL171_0
           have HO_162000 := n0_
           have BK153 := n1_
           have BK154 := n2_
           have BK161 := n3_
           have HB := n4_
           have HH65 := n5_
           have HO174 := n6_
           clear n0_ n1_ n2_ n3_ n4_ n5_ n6_
           clear ho hb hg hat
           have p49 : 0 ≤ (x7_14 : Int) := of_decide_eq_true (by first | (with_reducible assumption) | assumption)
           have q49 : (x7_14 : Int) < ((y168.length : Int) : Int) := of_decide_eq_true (by first | (with_reducible assumption) | assumption)
           replace p49 := eq_true p49
           replace q49 := eq_true q49
           obtain ⟨Ao69, co69, eo69⟩ := Kd.R_slice HO174.out
           (first | subst eo69 | (injection eo69 with f1_ f2_ f3_; have f4_ := f1_.symm; have f5_ := f3_.symm; clear f1_ f2_ f3_; subst f4_; subst f5_))
           obtain ⟨_, _, hraw67, _, _, hcc67, _⟩ := Kd.H_raw HH65.out (of_decide_eq_true (by first | (with_reducible assumption) | assumption)) (by have h_ : (x7_14 : Int) < ((y168.length : Int) : Int) := of_decide_eq_true (by first | (with_reducible assumption) | assumption); first | exact h_ | (have e_ := (HN65.out); omega) | simpa using h_)
           obtain ⟨_, hfr67⟩ := Kd.H_at HH65.out (of_decide_eq_true (by first | (with_reducible assumption) | assumption)) (by have h_ : (x7_14 : Int) < ((y168.length : Int) : Int) := of_decide_eq_true (by first | (with_reducible assumption) | assumption); first | exact h_ | (have e_ := (HN65.out); omega) | simpa using h_)
           have hx67_0 := hcc67 0 _ rfl
           have hf67_0 := hfr67 0
           (try simp only [Nat.add_zero] at hx67_0 hf67_0)
           (try rw [show ((Kd.slice 3 (Kd.int .i64))).sz = 1 from rfl, Nat.mul_one] at hx67_0)
           (try rw [show ((Kd.slice 3 (Kd.int .i64))).sz = 1 from rfl, Nat.mul_one] at hf67_0)
           have HP67 := Kd.S_seg0 HH65.out (of_decide_eq_true (by first | (with_reducible assumption) | assumption)) (by have h_ : (x7_14 : Int) < ((y168.length : Int) : Int) := of_decide_eq_true (by first | (with_reducible assumption) | assumption); first | exact h_ | (have e_ := (HN65.out); omega) | simpa using h_) (seg := [.slice Ao69 y172.length co69]) (j := 0) (show 1 ≤ 1 from by decide) (x' := y172) (Kd.M_row HO174.out) (fun _ hk => hk)
           (try simp only [show ((Kd.slice 3 (Kd.int .i64))).sz = 1 from rfl, Nat.mul_one, Nat.add_zero] at HP67)
           clear hcc67 hfr67
           have HNB153_go65 := Aside0.mk (show gb153 ≠ go65 from by have h_ := Kd.R_ne hraw67 BK153.out (by decide); intro e_; exact h_ (by rw [e_]; rfl))
           have HNB154_go65 := Aside0.mk (show gb154 ≠ go65 from by have h_ := Kd.R_ne hraw67 BK154.out (by decide); intro e_; exact h_ (by rw [e_]; rfl))
           have HNB161_go65 := Aside0.mk (show gb161 ≠ go65 from by have h_ := Kd.R_ne hraw67 BK161.out (by decide); intro e_; exact h_ (by rw [e_]; rfl))
           have HS67 := HP67.1
           rw [← Ny175.out] at HS67
           have HQ67 := Aside0.mk HS67
           obtain ⟨_, hgg67⟩ := Kd.R_typed hraw67 go65 rfl
           have GG67_ := Aside0.mk hgg67
           clear HP67 HS67 hgg67
           refine hK.out _ _ ⟨(blk_cell BK161.out 0).trans rfl, (blk_cell BK161.out 1).trans rfl, HS2_⟩ (fun hHeld => ?_)
           clear hK K
           refine norm_ (a' := ?_) ?_ ?_
           rotate_left
           ·show Act.put _ (some 55) _ = _
            simp only [Act.put, List.setIfInBounds_toArray, List.set_cons_zero, List.set_cons_succ, i64_w, i32_w]
            rfl
           refine zP (i := 11) (N := some 56) zB3_12 (any_of HT_.out (by kernel_rfl)) ?_
           refine last_ (i := 12) (N := none) zB3_13 rfl rfl (one_of HT_.out (by kernel_rfl)) (by decide) (fun K hK => ?_)
           refine skip_ (w1 := ?_) (by rfl) rfl ?_ ?_
           rotate_left
           ·go_simp
            rfl
           refine hK.out _ _ ?_
           clear hK K
           refine done_ (done_of HT_.out (by kernel_rfl)) ?_
           have n0_ : Aside0 (Kd.R (Kd.int .i64) 3 (w66.setCell ⟨go65, (x7_14 : Int).toNat, none⟩ (.slice Ao69 y172.length co69)) w.heap.size (fun _ => True) (.slice Ao53 x162000_1.length co53) x162000_1) := ⟨by (with_reducible repeat (first | apply Kd.R_alloc | apply Kd.R_drewN | apply Kd.R_drew)); exact Kd.R_mono (Kd.R_far (p := ⟨go65, (x7_14 : Int).toNat, none⟩) (Kd.R_types HO_162000.out GG67_.out (by decide)) (fun _ hk => hk.2) (.slice Ao69 y172.length co69)) (fun _ hk => trivial)⟩
           have n1_ : Aside0 (Kd.S (Kd.slice 3 (Kd.int .i64)) 24 (w66.setCell ⟨go65, (x7_14 : Int).toNat, none⟩ (.slice Ao69 y172.length co69)) w.heap.size (fun k_ => some k_ ≠ (.slice Ao53 x162000_1.length co53 : Value).ownBlock) (.slice (some ⟨go65, 0, none⟩) y168.length co61) y175) := ⟨by (with_reducible repeat (first | apply Kd.S_alloc | apply Kd.S_drewN | apply Kd.S_drew)); exact HQ67.out⟩
           have n2_ : Aside0 ((w66.setCell ⟨go65, (x7_14 : Int).toNat, none⟩ (.slice Ao69 y172.length co69)).heap[gb153]? = some (.cells #[.slice A0_0 l0_0.length c0_0, .slice A0_1 l0_1.length c0_1] 34 (0, 0))) := ⟨by (with_reducible repeat (first | refine blk_drewN ?_ _ | refine blk_drew ?_ | refine blk_alloc ?_ _)); refine blk_far ?_ HNB153_go65.out _; (with_reducible repeat (first | refine blk_drewN ?_ _ | refine blk_drew ?_ | refine blk_alloc ?_ _)); exact BK153.out⟩
           have n3_ : Aside0 ((w66.setCell ⟨go65, (x7_14 : Int).toNat, none⟩ (.slice Ao69 y172.length co69)).heap[gb154]? = some (.cells #[.slice none 0 0, .slice none 0 0] 34 (0, 0))) := ⟨by (with_reducible repeat (first | refine blk_drewN ?_ _ | refine blk_drew ?_ | refine blk_alloc ?_ _)); refine blk_far ?_ HNB154_go65.out _; (with_reducible repeat (first | refine blk_drewN ?_ _ | refine blk_drew ?_ | refine blk_alloc ?_ _)); exact BK154.out⟩
           have n4_ : Aside0 ((w66.setCell ⟨go65, (x7_14 : Int).toNat, none⟩ (.slice Ao69 y172.length co69)).heap[gb161]? = some (.cells #[.slice Ao53 x162000_1.length co53, .slice (some ⟨go65, 0, none⟩) y168.length co61] 34 (0, 0))) := ⟨by (with_reducible repeat (first | refine blk_drewN ?_ _ | refine blk_drew ?_ | refine blk_alloc ?_ _)); refine blk_far ?_ HNB161_go65.out _; (with_reducible repeat (first | refine blk_drewN ?_ _ | refine blk_drew ?_ | refine blk_alloc ?_ _)); exact BK161.out⟩
           have n5_ : Aside0 (Below w.heap.size w (w66.setCell ⟨go65, (x7_14 : Int).toNat, none⟩ (.slice Ao69 y172.length co69))) := ⟨by repeat (first | (with_reducible first | exact HB.out | apply below_alloc | apply pw_below_drewN | apply below_drew1 | refine below_set ?_ GB65.out | refine below_set ?_ GE153.out | refine below_set ?_ GE154.out | refine below_set ?_ GE161.out) | exact HB.out)⟩
           (try clear HO_162000)
           (try clear HO170)
           (try clear BK153)
           (try clear BK154)
           (try clear BK161)
           (try clear HB)
           generalize (w66.setCell ⟨go65, (x7_14 : Int).toNat, none⟩ (.slice Ao69 y172.length co69)) = w70 at n0_ n1_ n2_ n3_ n4_ n5_ ⊢
           have HO_162000 := n0_
           have HO170 := n1_
           have BK153 := n2_
           have BK154 := n3_
           have BK161 := n4_
           have HB := n5_
           clear n0_ n1_ n2_ n3_ n4_ n5_
           have hcz71_0 : w70.cell? ⟨gb161, 0, none⟩ = some (.slice Ao53 x162000_1.length co53) := (blk_cell BK161.out 0).trans rfl
           have hcz71_1 : w70.cell? ⟨gb161, 1, none⟩ = some (.slice (some ⟨go65, 0, none⟩) y168.length co61) := (blk_cell BK161.out 1).trans rfl
           have hfz71_0 := blk_frozen BK161.out 0
           have hfz71_1 := blk_frozen BK161.out 1
           have hnb72 := NB154_153.out
           have hnc72 := NB153_154.out
           have hcz73_0 : w70.cell? ⟨gb154, 0, none⟩ = some (.slice none 0 0) := (blk_cell BK154.out 0).trans rfl
           have hcz73_1 : w70.cell? ⟨gb154, 1, none⟩ = some (.slice none 0 0) := (blk_cell BK154.out 1).trans rfl
           have hfz73_0 := blk_frozen BK154.out 0
           have hfz73_1 := blk_frozen BK154.out 1
           try go_wp2
           refine bodyPost_ret (results_cell_row rfl _ _ gb154 34 #[.slice Ao53 x162000_1.length co53, .slice (some ⟨go65, 0, none⟩) y168.length co61] (0, 0) _ rfl (by (with_reducible repeat (first | refine blk_drewN ?_ _ | refine blk_drew ?_ | refine blk_alloc ?_ _)); refine blk_put (cs := #[.slice Ao53 x162000_1.length co53, .slice none 0 0]) ?_ 1 _ rfl; (with_reducible repeat (first | refine blk_drewN ?_ _ | refine blk_drew ?_ | refine blk_alloc ?_ _)); refine blk_put (cs := #[.slice none 0 0, .slice none 0 0]) ?_ 0 _ rfl; (with_reducible repeat (first | refine blk_drewN ?_ _ | refine blk_drew ?_ | refine blk_alloc ?_ _)); exact BK154.out) Try.underlying34 rfl (by kernel_rfl)) rfl ?_
           exact ⟨_, _, by first | rfl | (simp [errW_none, errW_some] <;> rfl) | (simp [*, errW_none, errW_some] <;> rfl), by (with_reducible repeat (first | apply Kd.R_alloc | apply Kd.R_drewN | apply Kd.R_drew)); exact Kd.R_mono (Kd.R_far (p := ⟨gb154, 1, none⟩) (Kd.R_far (p := ⟨gb154, 0, none⟩) (Kd.R_types HO_162000.out BK154.out (by decide)) (fun _ hk => hk.2) (.slice Ao53 x162000_1.length co53)) (fun _ hk => hk.2) (.slice (some ⟨go65, 0, none⟩) y168.length co61)) (fun _ hk => trivial), by (with_reducible repeat (first | apply Kd.S_alloc | apply Kd.S_drewN | apply Kd.S_drew)); exact Kd.S_mono (Kd.S_far (p := ⟨gb154, 1, none⟩) (Kd.S_far (p := ⟨gb154, 0, none⟩) (Kd.S_types HO170.out BK154.out (by decide)) (fun _ hk => hk.2) (.slice Ao53 x162000_1.length co53)) (fun _ hk => hk.2) (.slice (some ⟨go65, 0, none⟩) y168.length co61)) (fun _ hk => hk.1), by repeat (first | (with_reducible first | exact HB.out | apply below_alloc | apply pw_below_drewN | apply below_drew1 | refine below_set ?_ GE153.out | refine below_set ?_ GE154.out | refine below_set ?_ GE161.out) | exact HB.out)⟩
          ·rw [if_neg c48] at H
           exact absurd H (by simp)
         ·rw [if_neg c47] at H
          exact absurd H (by simp)
        ·rw [if_neg c46] at H
         exact absurd H (by simp)
       ·rw [if_neg c45] at H
        exact absurd H (by simp)
      ·rw [if_neg c44] at H
       have c44b0 : (x7_14 == (x162001_1.length : Int)) = false := beq_eq_false_iff_ne.mpr c44
       have c44b1 : (x7_14 != (x162001_1.length : Int)) = true := bne_iff_ne.mpr c44
       by_cases c74 : 0 ≤ x7_14
       ·rw [if_pos c74] at H
        have c74b0 : decide (0 ≤ x7_14) = true := decide_eq_true c74
        clear c74
        by_cases c75 : x7_14 < (x162001_1.length : Int)
        ·rw [if_pos c75] at H
         have c75b0 : decide (x7_14 < (x162001_1.length : Int)) = true := decide_eq_true c75
         clear c75
         by_cases c76 : (rd_L1 x162001_1 x7_14).length < 17592186044416
         ·rw [if_pos c76] at H
          have LMc76 := Aside0.mk c76
          clear c76
          obtain ⟨y177, hy177⟩ : ∃ y_ : List Int, y_ = ((rd_L1 x162001_1 x7_14) ++ [x1_1]) := ⟨_, rfl⟩
          replace H : (some (x162000_1, (x162001_1.set (x7_14 : Int).toNat y177))) = some (r1, r2) := by first | (rw [hy177]; with_reducible exact H) | (have H2_ := (Option.bind_some _ _).symm.trans H; rw [hy177]; with_reducible exact H2_) | (have H2_ := (Option.bind_some _ _).symm.trans H; with_reducible exact H2_) | with_reducible exact H | (rw [hy177]; exact H) | exact H
          have Ny177 := Aside0.mk hy177
          clear hy177
          obtain ⟨y180, hy180⟩ : ∃ y_ : List (List Int), y_ = (x162001_1.set (x7_14 : Int).toNat y177) := ⟨_, rfl⟩
          replace H : (some (x162000_1, y180)) = some (r1, r2) := by first | (rw [hy180]; with_reducible exact H) | (have H2_ := (Option.bind_some _ _).symm.trans H; rw [hy180]; with_reducible exact H2_) | (have H2_ := (Option.bind_some _ _).symm.trans H; with_reducible exact H2_) | with_reducible exact H | (rw [hy180]; exact H) | exact H
          have Ny180 := Aside0.mk hy180
          clear hy180
          simp only [Option.some.injEq, Prod.mk.injEq] at H
          obtain ⟨rfl, rfl⟩ := H
          have hnb78 := NB161_153.out
          have hnc78 := NB153_161.out
          have hnb79 := NB161_154.out
          have hnc79 := NB154_161.out
          have hcz80_0 : wc.cell? ⟨gb161, 0, none⟩ = some (u162000) := (blk_cell BK161.out 0).trans rfl
          have hcz80_1 : wc.cell? ⟨gb161, 1, none⟩ = some (u162001) := (blk_cell BK161.out 1).trans rfl
          have hfz80_0 := blk_frozen BK161.out 0
          have hfz80_1 := blk_frozen BK161.out 1
          obtain ⟨Ao81, co81, eo81⟩ := Kd.R_slice HO_162000.out
          subst eo81
          obtain ⟨Ao82, co82, eo82⟩ := Kd.S_slice HO_162001.out
          subst eo82
          try go_wp2_with (first | ((with_reducible refine gate_callee (f := 86) rfl ?_); refine zG (some 31) Try.func86 #[.agg #[.slice Ao81 x162000_1.length co81, .slice Ao82 x162001_1.length co82], .int .i64 x7_14, .int .i64 x6_1] ?_; (with_reducible refine (spec_l5Entry.calls kj14 _ _ x162000_1 _ _ x162001_1 x7_14 x6_1 t164 _ ?side1 ?side2 ?side3 ?side4 A42.out).mono ?_); (case side1 => repeat (first | exact (Kd.R_reads' HO_162000.out).2.2 | (with_reducible refine Kd.C_alloc ?_ _) | (with_reducible refine Kd.C_drewN ?_ _) | (with_reducible refine Kd.C_drew ?_))); (case side2 => exact (Kd.R_reads' HO_162000.out).2.1); (case side3 => repeat (first | exact (Kd.S_reads' HO_162001.out).2.2 | (with_reducible refine Kd.C_alloc ?_ _) | (with_reducible refine Kd.C_drewN ?_ _) | (with_reducible refine Kd.C_drew ?_))); (case side4 => exact (Kd.S_reads' HO_162001.out).2.1); rintro e w83 ⟨rfl, hb⟩; refine ⟨_, rfl, ?_⟩; have n0_ := Aside0.mk (Kd.R_below (by (with_reducible repeat (first | apply Kd.R_alloc | apply Kd.R_drewN | apply Kd.R_drew)); exact HO_162000.out) hb); have n1_ := Aside0.mk (Kd.S_below (by (with_reducible repeat (first | apply Kd.S_alloc | apply Kd.S_drewN | apply Kd.S_drew)); exact HO_162001.out) hb); have n2_ := Aside0.mk (blk_below (g := gb153) (o := .cells #[.slice A0_0 l0_0.length c0_0, .slice A0_1 l0_1.length c0_1] 34 (0, 0)) (by (with_reducible repeat (first | refine blk_drewN ?_ _ | refine blk_drew ?_ | refine blk_alloc ?_ _)); exact BK153.out) hb); have n3_ := Aside0.mk (blk_below (g := gb154) (o := .cells #[.slice none 0 0, .slice none 0 0] 34 (0, 0)) (by (with_reducible repeat (first | refine blk_drewN ?_ _ | refine blk_drew ?_ | refine blk_alloc ?_ _)); exact BK154.out) hb); have n4_ := Aside0.mk (blk_below (g := gb161) (o := .cells #[.slice Ao81 x162000_1.length co81, .slice Ao82 x162001_1.length co82] 34 (0, 0)) (by (with_reducible repeat (first | refine blk_drewN ?_ _ | refine blk_drew ?_ | refine blk_alloc ?_ _)); exact BK161.out) hb); have n5_ := Aside0.mk (below_step (by repeat (first | (with_reducible first | exact HB.out | apply below_alloc | apply pw_below_drewN | apply below_drew1 | refine below_set ?_ GE153.out | refine below_set ?_ GE154.out | refine below_set ?_ GE161.out) | exact HB.out)) hb); clear HO_162000; clear HO_162001; clear BK153; clear BK154; clear BK161; clear HB; have HO_162000 := n0_; have HO_162001 := n1_; have BK153 := n2_; have BK154 := n3_; have BK161 := n4_; have HB := n5_; clear n0_ n1_ n2_ n3_ n4_ n5_; (try clear hb); (try clear hb2); (try clear hk); (try clear hi); have hcz84_0 : w83.cell? ⟨gb161, 0, none⟩ = some (.slice Ao81 x162000_1.length co81) := (blk_cell BK161.out 0).trans rfl; have hcz84_1 : w83.cell? ⟨gb161, 1, none⟩ = some (.slice Ao82 x162001_1.length co82) := (blk_cell BK161.out 1).trans rfl; have hfz84_0 := blk_frozen BK161.out 0; have hfz84_1 := blk_frozen BK161.out 1))
          have n0_ := Aside0.mk (Kd.R_drew HO_162000.out)
          have n1_ := Aside0.mk (Kd.S_drew HO_162001.out)
          have n2_ := Aside0.mk (blk_drew BK153.out)
          have n3_ := Aside0.mk (blk_drew BK154.out)
          have n4_ := Aside0.mk (blk_drew BK161.out)
          have n5_ := Aside0.mk (below_drew1 HB.out)
          clear HO_162000
          clear HO_162001
          clear BK153
          clear BK154
          clear BK161
          clear HB
          have HO_162000 := n0_
          have HO_162001 := n1_
          have BK153 := n2_
          have BK154 := n3_
          have BK161 := n4_
          have HB := n5_
          clear n0_ n1_ n2_ n3_ n4_ n5_
          have p176 : 0 ≤ (x7_14 : Int) := of_decide_eq_true (by first | (with_reducible assumption) | assumption)
          have q176 : x7_14 < (x162001_1.length : Int) := of_decide_eq_true (by first | (with_reducible assumption) | assumption)
          obtain ⟨ad176, A176_0, c176_0, e176, hx176_0, hl176_0, hi176_0⟩ := at_L1 (Kd.S_reads' HO_162001.out).2.2 x7_14 p176 q176
          cases e176
          obtain ⟨ce176, hce176, hMe176, hcc176⟩ := Kd.S_get HO_162001.out [] x7_14 p176 (by first | exact q176 | exact of_decide_eq_true (by first | (with_reducible assumption) | assumption) | (have e_ := (Kd.S_reads' HO_162001.out).1; omega))
          obtain ⟨ve176_0, rfl, ge176_0⟩ := hMe176
          have hv176_0 := hcc176 0 _ rfl
          rw [Nat.add_zero, show ((Kd.slice 3 (Kd.int .i64))).sz = 1 from rfl, Nat.mul_one] at hv176_0
          replace hv176_0 := Option.some.inj (hv176_0.symm.trans hx176_0)
          rw [hv176_0] at ge176_0
          have HL176_0 := Aside0.mk (show Kd.R (Kd.int .i64) 3 _ _ _ _ (rd_L1 x162001_1 x7_14) from ge176_0)
          clear hv176_0 ge176_0
          have HX176_0 := Aside0.mk hx176_0
          clear hcc176 hce176
          have HR176_0 := Aside0.mk hi176_0
          have HC176_0 := Aside0.mk hl176_0
          clear hi176_0 hl176_0
          replace p176 := eq_true p176
          replace q176 := eq_true q176
          obtain ⟨go86, co86, eo86, gb86, gl86, cl86, HG86⟩ := Kd.S_form HO_162001.out (by have h_ : (x7_14 : Int) < ((x162001_1.length : Int) : Int) := of_decide_eq_true (by first | (with_reducible assumption) | assumption); have h2_ : 0 ≤ (x7_14 : Int) := (of_decide_eq_true (by first | (with_reducible assumption) | assumption)); omega)
          (first | cases eo86 | (injection eo86 with ea_ en_ ec_; (first | subst ea_ | (injection ea_ with ea_; subst ea_)); subst ec_; clear en_))
          have GB86 := Aside0.mk gb86
          have GG86 := Aside0.mk HG86
          clear gb86 gl86 HG86
          (first | simp only [add_plain] at hx176_0 | skip)
          obtain ⟨oki86, ce86, hcl86, hM86, hcc86, _, _, hH86⟩ := Kd.S_elem HO_162001.out [] (x7_14 : Int) (of_decide_eq_true (by first | (with_reducible assumption) | assumption)) (by have h_ : (x7_14 : Int) < ((x162001_1.length : Int) : Int) := of_decide_eq_true (by first | (with_reducible assumption) | assumption); first | exact h_ | (have e_ := (Kd.S_reads' HO_162001.out).1; omega) | simpa using h_)
          obtain ⟨ve86_0, rfl, ge86_0⟩ := hM86
          have hv86 := hcc86 0 _ rfl
          have hX86 := HX176_0.out
          (try simp only [add_plain] at hX86)
          (try simp only [Nat.add_zero] at hv86)
          (try rw [show ((Kd.slice 3 (Kd.int .i64))).sz = 1 from rfl, Nat.mul_one] at hv86)
          replace hv86 := Option.some.inj (hv86.symm.trans hX86)
          subst hv86
          clear hX86 hcc86 hcl86
          have UU86 := Aside0.mk (show Kd.R (Kd.int .i64) 3 _ w.heap.size oki86 (.slice A176_0 (rd_L1 x162001_1 x7_14).length c176_0) (rd_L1 x162001_1 x7_14) from ge86_0)
          have HH86 := Aside0.mk hH86
          have HN86 := Aside0.mk (Kd.S_reads' HO_162001.out).1
          clear hH86 ge86_0
          refine start_ (n := 13) (S := fun w' => w'.cell? ⟨gb161, 0, none⟩ = some (.slice Ao81 x162000_1.length co81) ∧ w'.cell? ⟨gb161, 1, none⟩ = some (.slice (some ⟨go86, 0, none⟩) x162001_1.length co82) ∧ w'.cell? ⟨go86, (x7_14).toNat, none⟩ = some (.slice A176_0 (rd_L1 x162001_1 x7_14).length c176_0)) (ds := [12]) zB3_0 (by kernel_rfl) rfl rfl ⟨(blk_cell BK161.out 0).trans rfl, (blk_cell BK161.out 1).trans rfl, hx176_0⟩ (fun hHeld => ?_); refine with_tabW spec_l17Column.tab11 spec_l17Column.bits11 (fun HT_ HW_ => ?_)
          generalize w83.drew = w85 at HO_162000 HO_162001 BK153 BK154 BK161 HB GG86 HH86 HL176_0 HR176_0 HX176_0 UU86 hx176_0 hHeld ⊢
          refine zP (i := 0) (N := some 45) zB3_1 (any_of HT_.out (by kernel_rfl)) ?_
          refine zP (i := 2) (N := some 47) zB3_2 (any_of HT_.out (by kernel_rfl)) ?_
          refine zP (i := 3) (N := some 48) zB3_3 (any_of HT_.out (by kernel_rfl)) ?_
          refine zP (i := 5) (N := some 50) zB3_4 (any_of HT_.out (by kernel_rfl)) ?_
          refine zP (i := 8) (N := some 53) zB3_5 (any_of HT_.out (by kernel_rfl)) ?_
          refine zT3 (i := 1) (N := some 46) zB3_6 (take_ofW HT_.out HW_.out (by kernel_rfl)) hHeld ?_
          refine zT3 (i := 4) (N := some 49) zB3_7 (take_ofW HT_.out HW_.out (by kernel_rfl)) hHeld ?_
          refine zP (i := 6) (N := some 51) zB3_8 (any_of HT_.out (by kernel_rfl)) ?_
          refine zT3 (i := 7) (N := some 52) zB3_9 (take_ofW HT_.out HW_.out (by kernel_rfl)) hHeld ?_
          refine one_ (i := 9) (N := some 54) zB3_10 rfl rfl (one_of HT_.out (by kernel_rfl)) (by decide) (fun K hK => ?_)
          refine value_ (w1 := ?_) (v := ?_) (by rfl) rfl ?_ ?_
          rotate_left 2
          ·go_simp
           constructor
           ·rfl
           ·rfl
          refine hK.out _ _ ⟨(blk_cell (blk_alloc BK161.out _) 0).trans rfl, (blk_cell (blk_alloc BK161.out _) 1).trans rfl, (World.cell?_alloc_lt _ _ _ (World.block_lt_of_cell? _ _ (hHeld.2.2))).trans (hHeld.2.2)⟩ (fun hHeld => ?_)
          clear hK K
          refine norm_ (a' := ?_) ?_ ?_
          rotate_left
          ·show Act.put _ (some 54) _ = _
           simp only [Act.put, List.setIfInBounds_toArray, List.set_cons_zero, List.set_cons_succ, i64_w, i32_w]
           rfl
          refine one_ (i := 10) (N := some 55) zB3_11 rfl rfl (one_of HT_.out (by kernel_rfl)) (by decide) (fun K hK => ?_)
          refine Kd.R_append_step (Kd.int .i64) (w0 := w) w.heap.size (by rfl) (.tmp 52) (.tmp 54) 24 3 (.int .i64 0) 8 rfl Try.underlying24 info3 rfl (by decide) (by omega) (.slice A176_0 (rd_L1 x162001_1 x7_14).length c176_0) (rd_L1 x162001_1 x7_14) x1_1 [.int .i64 x1_1] (fun k_ => oki86 k_ ∨ ((fun k_ => some k_ ≠ (.slice Ao81 x162000_1.length co81 : Value).ownBlock)) k_ ∧ w85.heap.size ≤ k_) (fun _ => False) rfl rfl ?aP (fun _ hk => hk.elim) ?aF ?aO ?aB ?aS ?aL ?_
          (case aP => exact rfl)
          (case aB => exact (by repeat (first | (with_reducible first | exact HB.out | apply below_alloc | apply pw_below_drewN | apply below_drew1 | refine below_set ?_ GE153.out | refine below_set ?_ GE154.out | refine below_set ?_ GE161.out) | exact HB.out)))
          (case aF => exact (fun k_ hk => .inr ⟨Kd.fresh' (Kd.R_lt (by (with_reducible repeat (first | apply Kd.R_alloc | apply Kd.R_drewN | apply Kd.R_drew)); exact HO_162000.out)) k_ hk, hk⟩))
          (case aO => exact (by (with_reducible repeat (first | apply Kd.R_alloc | apply Kd.R_drewN | apply Kd.R_drew)); exact Kd.R_mono UU86.out (fun _ hk => .inl hk)))
          (case aS => exact (below_size (by repeat (first | (with_reducible first | exact HB.out | apply below_alloc | apply pw_below_drewN | apply below_drew1 | refine below_set ?_ GE153.out | refine below_set ?_ GE154.out | refine below_set ?_ GE161.out) | exact HB.out))))
          (case aL => have := LMc76.out; omega)
          intro v178 w87 ho hb hg hat
          (first | have HS2_ := cell_grown hg (hHeld.2.2) (by first | (rw [add_block]; exact (fun e_ => ((HL176_0.out.1 _ e_.symm).2) rfl)) | (show some (Addr.add _ _).block ≠ _; rw [add_block]; exact (fun e_ => ((HL176_0.out.1 _ e_.symm).2) rfl)) | exact (fun e_ => ((HL176_0.out.1 _ e_.symm).2) rfl)) | have HS2_ := cell_grown hg (cell_unalloc (hHeld.2.2) (by first | (rw [add_block]; exact Kd.S_lt HO_162001.out _ rfl) | (show (Addr.add _ _).block < _; rw [add_block]; exact Kd.S_lt HO_162001.out _ rfl) | exact Kd.S_lt HO_162001.out _ rfl)) (by first | (rw [add_block]; exact (fun e_ => ((HL176_0.out.1 _ e_.symm).2) rfl)) | (show some (Addr.add _ _).block ≠ _; rw [add_block]; exact (fun e_ => ((HL176_0.out.1 _ e_.symm).2) rfl)) | exact (fun e_ => ((HL176_0.out.1 _ e_.symm).2) rfl)))
          rw [← Ny177.out] at ho
          have n0_ := Aside0.mk (Kd.R_grown2 (by (with_reducible repeat (first | apply Kd.R_alloc | apply Kd.R_drewN | apply Kd.R_drew)); exact HO_162000.out) rfl hg (fun k_ e_ => (HL176_0.out.1 k_ e_).1))
          have n1_ := Aside0.mk (blk_grown (g := gb153) (o := .cells #[.slice A0_0 l0_0.length c0_0, .slice A0_1 l0_1.length c0_1] 34 (0, 0)) (by (with_reducible repeat (first | refine blk_drewN ?_ _ | refine blk_drew ?_ | refine blk_alloc ?_ _)); exact BK153.out) hg (Kd.R_ne HL176_0.out BK153.out (by decide)))
          have n2_ := Aside0.mk (blk_grown (g := gb154) (o := .cells #[.slice none 0 0, .slice none 0 0] 34 (0, 0)) (by (with_reducible repeat (first | refine blk_drewN ?_ _ | refine blk_drew ?_ | refine blk_alloc ?_ _)); exact BK154.out) hg (Kd.R_ne HL176_0.out BK154.out (by decide)))
          have n3_ := Aside0.mk (blk_grown (g := gb161) (o := .cells #[.slice Ao81 x162000_1.length co81, .slice (some ⟨go86, 0, none⟩) x162001_1.length co82] 34 (0, 0)) (by (with_reducible repeat (first | refine blk_drewN ?_ _ | refine blk_drew ?_ | refine blk_alloc ?_ _)); exact BK161.out) hg (Kd.R_ne HL176_0.out BK161.out (by decide)))
          have n4_ := Aside0.mk (hb)
          have n5_ := Aside0.mk (Kd.H_grown (Kd.H_widen (by repeat (first | exact HH86.out | refine Kd.H_alloc ?_ _ | refine Kd.H_drewN ?_ _ | refine Kd.H_drew ?_))) hg (fun k_ e_ => .inl (UU86.out.1 k_ e_)))
          have n6_ := Aside0.mk (ho)
          clear HO_162000
          clear BK153
          clear BK154
          clear BK161
          clear HB
          clear HH86
          clear HO_162001
          clear UU86
          clear HL176_0
          have HO_162000 := n0_
          have BK153 := n1_
          have BK154 := n2_
          have BK161 := n3_
          have HB := n4_
          have HH86 := n5_
          have HO179 := n6_
          clear n0_ n1_ n2_ n3_ n4_ n5_ n6_
          clear ho hb hg hat
          have p77 : 0 ≤ (x7_14 : Int) := of_decide_eq_true (by first | (with_reducible assumption) | assumption)
          have q77 : (x7_14 : Int) < ((x162001_1.length : Int) : Int) := of_decide_eq_true (by first | (with_reducible assumption) | assumption)
          replace p77 := eq_true p77
          replace q77 := eq_true q77
          obtain ⟨Ao90, co90, eo90⟩ := Kd.R_slice HO179.out
          (first | subst eo90 | (injection eo90 with f1_ f2_ f3_; have f4_ := f1_.symm; have f5_ := f3_.symm; clear f1_ f2_ f3_; subst f4_; subst f5_))
          obtain ⟨_, _, hraw88, _, _, hcc88, _⟩ := Kd.H_raw HH86.out (of_decide_eq_true (by first | (with_reducible assumption) | assumption)) (by have h_ : (x7_14 : Int) < ((x162001_1.length : Int) : Int) := of_decide_eq_true (by first | (with_reducible assumption) | assumption); first | exact h_ | (have e_ := (HN86.out); omega) | simpa using h_)
          obtain ⟨_, hfr88⟩ := Kd.H_at HH86.out (of_decide_eq_true (by first | (with_reducible assumption) | assumption)) (by have h_ : (x7_14 : Int) < ((x162001_1.length : Int) : Int) := of_decide_eq_true (by first | (with_reducible assumption) | assumption); first | exact h_ | (have e_ := (HN86.out); omega) | simpa using h_)
          have hx88_0 := hcc88 0 _ rfl
          have hf88_0 := hfr88 0
          (try simp only [Nat.add_zero] at hx88_0 hf88_0)
          (try rw [show ((Kd.slice 3 (Kd.int .i64))).sz = 1 from rfl, Nat.mul_one] at hx88_0)
          (try rw [show ((Kd.slice 3 (Kd.int .i64))).sz = 1 from rfl, Nat.mul_one] at hf88_0)
          have HP88 := Kd.S_seg0 HH86.out (of_decide_eq_true (by first | (with_reducible assumption) | assumption)) (by have h_ : (x7_14 : Int) < ((x162001_1.length : Int) : Int) := of_decide_eq_true (by first | (with_reducible assumption) | assumption); first | exact h_ | (have e_ := (HN86.out); omega) | simpa using h_) (seg := [.slice Ao90 y177.length co90]) (j := 0) (show 1 ≤ 1 from by decide) (x' := y177) (Kd.M_row HO179.out) (fun _ hk => hk)
          (try simp only [show ((Kd.slice 3 (Kd.int .i64))).sz = 1 from rfl, Nat.mul_one, Nat.add_zero] at HP88)
          clear hcc88 hfr88
          have HNB153_go86 := Aside0.mk (show gb153 ≠ go86 from by have h_ := Kd.R_ne hraw88 BK153.out (by decide); intro e_; exact h_ (by rw [e_]; rfl))
          have HNB154_go86 := Aside0.mk (show gb154 ≠ go86 from by have h_ := Kd.R_ne hraw88 BK154.out (by decide); intro e_; exact h_ (by rw [e_]; rfl))
          have HNB161_go86 := Aside0.mk (show gb161 ≠ go86 from by have h_ := Kd.R_ne hraw88 BK161.out (by decide); intro e_; exact h_ (by rw [e_]; rfl))
          have HS88 := HP88.1
          rw [← Ny180.out] at HS88
          have HQ88 := Aside0.mk HS88
          obtain ⟨_, hgg88⟩ := Kd.R_typed hraw88 go86 rfl
          have GG88_ := Aside0.mk hgg88
          clear HP88 HS88 hgg88
          refine hK.out _ _ ⟨(blk_cell BK161.out 0).trans rfl, (blk_cell BK161.out 1).trans rfl, HS2_⟩ (fun hHeld => ?_)
          clear hK K
          refine norm_ (a' := ?_) ?_ ?_
          rotate_left
          ·show Act.put _ (some 55) _ = _
           simp only [Act.put, List.setIfInBounds_toArray, List.set_cons_zero, List.set_cons_succ, i64_w, i32_w]
           rfl
          refine zP (i := 11) (N := some 56) zB3_12 (any_of HT_.out (by kernel_rfl)) ?_
          refine last_ (i := 12) (N := none) zB3_13 rfl rfl (one_of HT_.out (by kernel_rfl)) (by decide) (fun K hK => ?_)
          refine skip_ (w1 := ?_) (by rfl) rfl ?_ ?_
          rotate_left
          ·go_simp
           rfl
          refine hK.out _ _ ?_
          clear hK K
          refine done_ (done_of HT_.out (by kernel_rfl)) ?_
          have n0_ : Aside0 (Kd.R (Kd.int .i64) 3 (w87.setCell ⟨go86, (x7_14 : Int).toNat, none⟩ (.slice Ao90 y177.length co90)) w.heap.size (fun _ => True) (.slice Ao81 x162000_1.length co81) x162000_1) := ⟨by (with_reducible repeat (first | apply Kd.R_alloc | apply Kd.R_drewN | apply Kd.R_drew)); exact Kd.R_mono (Kd.R_far (p := ⟨go86, (x7_14 : Int).toNat, none⟩) (Kd.R_types HO_162000.out GG88_.out (by decide)) (fun _ hk => hk.2) (.slice Ao90 y177.length co90)) (fun _ hk => trivial)⟩
          have n1_ : Aside0 (Kd.S (Kd.slice 3 (Kd.int .i64)) 24 (w87.setCell ⟨go86, (x7_14 : Int).toNat, none⟩ (.slice Ao90 y177.length co90)) w.heap.size (fun k_ => some k_ ≠ (.slice Ao81 x162000_1.length co81 : Value).ownBlock) (.slice (some ⟨go86, 0, none⟩) x162001_1.length co82) y180) := ⟨by (with_reducible repeat (first | apply Kd.S_alloc | apply Kd.S_drewN | apply Kd.S_drew)); exact HQ88.out⟩
          have n2_ : Aside0 ((w87.setCell ⟨go86, (x7_14 : Int).toNat, none⟩ (.slice Ao90 y177.length co90)).heap[gb153]? = some (.cells #[.slice A0_0 l0_0.length c0_0, .slice A0_1 l0_1.length c0_1] 34 (0, 0))) := ⟨by (with_reducible repeat (first | refine blk_drewN ?_ _ | refine blk_drew ?_ | refine blk_alloc ?_ _)); refine blk_far ?_ HNB153_go86.out _; (with_reducible repeat (first | refine blk_drewN ?_ _ | refine blk_drew ?_ | refine blk_alloc ?_ _)); exact BK153.out⟩
          have n3_ : Aside0 ((w87.setCell ⟨go86, (x7_14 : Int).toNat, none⟩ (.slice Ao90 y177.length co90)).heap[gb154]? = some (.cells #[.slice none 0 0, .slice none 0 0] 34 (0, 0))) := ⟨by (with_reducible repeat (first | refine blk_drewN ?_ _ | refine blk_drew ?_ | refine blk_alloc ?_ _)); refine blk_far ?_ HNB154_go86.out _; (with_reducible repeat (first | refine blk_drewN ?_ _ | refine blk_drew ?_ | refine blk_alloc ?_ _)); exact BK154.out⟩
          have n4_ : Aside0 ((w87.setCell ⟨go86, (x7_14 : Int).toNat, none⟩ (.slice Ao90 y177.length co90)).heap[gb161]? = some (.cells #[.slice Ao81 x162000_1.length co81, .slice (some ⟨go86, 0, none⟩) x162001_1.length co82] 34 (0, 0))) := ⟨by (with_reducible repeat (first | refine blk_drewN ?_ _ | refine blk_drew ?_ | refine blk_alloc ?_ _)); refine blk_far ?_ HNB161_go86.out _; (with_reducible repeat (first | refine blk_drewN ?_ _ | refine blk_drew ?_ | refine blk_alloc ?_ _)); exact BK161.out⟩
          have n5_ : Aside0 (Below w.heap.size w (w87.setCell ⟨go86, (x7_14 : Int).toNat, none⟩ (.slice Ao90 y177.length co90))) := ⟨by repeat (first | (with_reducible first | exact HB.out | apply below_alloc | apply pw_below_drewN | apply below_drew1 | refine below_set ?_ GB86.out | refine below_set ?_ GE153.out | refine below_set ?_ GE154.out | refine below_set ?_ GE161.out) | exact HB.out)⟩
          (try clear HO_162000)
          (try clear HO_162001)
          (try clear BK153)
          (try clear BK154)
          (try clear BK161)
          (try clear HB)
          generalize (w87.setCell ⟨go86, (x7_14 : Int).toNat, none⟩ (.slice Ao90 y177.length co90)) = w91 at n0_ n1_ n2_ n3_ n4_ n5_ ⊢
          have HO_162000 := n0_
          have HO_162001 := n1_
          have BK153 := n2_
          have BK154 := n3_
          have BK161 := n4_
          have HB := n5_
          clear n0_ n1_ n2_ n3_ n4_ n5_
          have hcz92_0 : w91.cell? ⟨gb161, 0, none⟩ = some (.slice Ao81 x162000_1.length co81) := (blk_cell BK161.out 0).trans rfl
          have hcz92_1 : w91.cell? ⟨gb161, 1, none⟩ = some (.slice (some ⟨go86, 0, none⟩) x162001_1.length co82) := (blk_cell BK161.out 1).trans rfl
          have hfz92_0 := blk_frozen BK161.out 0
          have hfz92_1 := blk_frozen BK161.out 1
          have hnb93 := NB154_153.out
          have hnc93 := NB153_154.out
          have hcz94_0 : w91.cell? ⟨gb154, 0, none⟩ = some (.slice none 0 0) := (blk_cell BK154.out 0).trans rfl
          have hcz94_1 : w91.cell? ⟨gb154, 1, none⟩ = some (.slice none 0 0) := (blk_cell BK154.out 1).trans rfl
          have hfz94_0 := blk_frozen BK154.out 0
          have hfz94_1 := blk_frozen BK154.out 1
          try go_wp2
          refine bodyPost_ret (results_cell_row rfl _ _ gb154 34 #[.slice Ao81 x162000_1.length co81, .slice (some ⟨go86, 0, none⟩) x162001_1.length co82] (0, 0) _ rfl (by (with_reducible repeat (first | refine blk_drewN ?_ _ | refine blk_drew ?_ | refine blk_alloc ?_ _)); refine blk_put (cs := #[.slice Ao81 x162000_1.length co81, .slice none 0 0]) ?_ 1 _ rfl; (with_reducible repeat (first | refine blk_drewN ?_ _ | refine blk_drew ?_ | refine blk_alloc ?_ _)); refine blk_put (cs := #[.slice none 0 0, .slice none 0 0]) ?_ 0 _ rfl; (with_reducible repeat (first | refine blk_drewN ?_ _ | refine blk_drew ?_ | refine blk_alloc ?_ _)); exact BK154.out) Try.underlying34 rfl (by kernel_rfl)) rfl ?_
          exact ⟨_, _, by first | rfl | (simp [errW_none, errW_some] <;> rfl) | (simp [*, errW_none, errW_some] <;> rfl), by (with_reducible repeat (first | apply Kd.R_alloc | apply Kd.R_drewN | apply Kd.R_drew)); exact Kd.R_mono (Kd.R_far (p := ⟨gb154, 1, none⟩) (Kd.R_far (p := ⟨gb154, 0, none⟩) (Kd.R_types HO_162000.out BK154.out (by decide)) (fun _ hk => hk.2) (.slice Ao81 x162000_1.length co81)) (fun _ hk => hk.2) (.slice (some ⟨go86, 0, none⟩) x162001_1.length co82)) (fun _ hk => trivial), by (with_reducible repeat (first | apply Kd.S_alloc | apply Kd.S_drewN | apply Kd.S_drew)); exact Kd.S_mono (Kd.S_far (p := ⟨gb154, 1, none⟩) (Kd.S_far (p := ⟨gb154, 0, none⟩) (Kd.S_types HO_162001.out BK154.out (by decide)) (fun _ hk => hk.2) (.slice Ao81 x162000_1.length co81)) (fun _ hk => hk.2) (.slice (some ⟨go86, 0, none⟩) x162001_1.length co82)) (fun _ hk => hk.1), by repeat (first | (with_reducible first | exact HB.out | apply below_alloc | apply pw_below_drewN | apply below_drew1 | refine below_set ?_ GE153.out | refine below_set ?_ GE154.out | refine below_set ?_ GE161.out) | exact HB.out)⟩
         ·rw [if_neg c76] at H
          exact absurd H (by simp)
        ·rw [if_neg c75] at H
         exact absurd H (by simp)
       ·rw [if_neg c74] at H
        exact absurd H (by simp)
     ·rw [if_neg c43] at H
      have c43b0 : (t164 == 0) = false := beq_eq_false_iff_ne.mpr c43
      have c43b1 : (t164 != 0) = true := bne_iff_ne.mpr c43
      by_cases c95 : 0 ≤ x7_14
      ·rw [if_pos c95] at H
       have c95b0 : decide (0 ≤ x7_14) = true := decide_eq_true c95
       clear c95
       by_cases c96 : x7_14 < (x162001_1.length : Int)
       ·rw [if_pos c96] at H
        have c96b0 : decide (x7_14 < (x162001_1.length : Int)) = true := decide_eq_true c96
        clear c96
        by_cases c97 : 0 ≤ x6_1
        ·rw [if_pos c97] at H
         have c97b0 : decide (0 ≤ x6_1) = true := decide_eq_true c97
         clear c97
         by_cases c98 : x6_1 < ((rd_L1 x162001_1 x7_14).length : Int)
         ·rw [if_pos c98] at H
          have c98b0 : decide (x6_1 < ((rd_L1 x162001_1 x7_14).length : Int)) = true := decide_eq_true c98
          clear c98
          obtain ⟨y182, hy182⟩ : ∃ y_ : List Int, y_ = ((rd_L1 x162001_1 x7_14).set (x6_1 : Int).toNat x1_1) := ⟨_, rfl⟩
          replace H : (spec_l17Column.l0 kj14 t164 (wrap64 (x6_1 + 1)) x162000_1 (x162001_1.set (x7_14 : Int).toNat y182)) = some (r1, r2) := by first | (rw [hy182]; with_reducible exact H) | (have H2_ := (Option.bind_some _ _).symm.trans H; rw [hy182]; with_reducible exact H2_) | (have H2_ := (Option.bind_some _ _).symm.trans H; with_reducible exact H2_) | with_reducible exact H | (rw [hy182]; exact H) | exact H
          have Ny182 := Aside0.mk hy182
          clear hy182
          obtain ⟨y184, hy184⟩ : ∃ y_ : List (List Int), y_ = (x162001_1.set (x7_14 : Int).toNat y182) := ⟨_, rfl⟩
          replace H : (spec_l17Column.l0 kj14 t164 (wrap64 (x6_1 + 1)) x162000_1 y184) = some (r1, r2) := by first | (rw [hy184]; with_reducible exact H) | (have H2_ := (Option.bind_some _ _).symm.trans H; rw [hy184]; with_reducible exact H2_) | (have H2_ := (Option.bind_some _ _).symm.trans H; with_reducible exact H2_) | with_reducible exact H | (rw [hy184]; exact H) | exact H
          have Ny184 := Aside0.mk hy184
          clear hy184
          have H' := Aside0.mk H
          clear H
          have hnb100 := NB161_153.out
          have hnc100 := NB153_161.out
          have hnb101 := NB161_154.out
          have hnc101 := NB154_161.out
          have hcz102_0 : wc.cell? ⟨gb161, 0, none⟩ = some (u162000) := (blk_cell BK161.out 0).trans rfl
          have hcz102_1 : wc.cell? ⟨gb161, 1, none⟩ = some (u162001) := (blk_cell BK161.out 1).trans rfl
          have hfz102_0 := blk_frozen BK161.out 0
          have hfz102_1 := blk_frozen BK161.out 1
          obtain ⟨Ao103, co103, eo103⟩ := Kd.R_slice HO_162000.out
          subst eo103
          obtain ⟨Ao104, co104, eo104⟩ := Kd.S_slice HO_162001.out
          subst eo104
          go_wp2_with (first | ((with_reducible refine gate_callee (f := 86) rfl ?_); refine zG (some 31) Try.func86 #[.agg #[.slice Ao103 x162000_1.length co103, .slice Ao104 x162001_1.length co104], .int .i64 x7_14, .int .i64 x6_1] ?_; (with_reducible refine (spec_l5Entry.calls kj14 _ _ x162000_1 _ _ x162001_1 x7_14 x6_1 t164 _ ?side1 ?side2 ?side3 ?side4 A42.out).mono ?_); (case side1 => repeat (first | exact (Kd.R_reads' HO_162000.out).2.2 | (with_reducible refine Kd.C_alloc ?_ _) | (with_reducible refine Kd.C_drewN ?_ _) | (with_reducible refine Kd.C_drew ?_))); (case side2 => exact (Kd.R_reads' HO_162000.out).2.1); (case side3 => repeat (first | exact (Kd.S_reads' HO_162001.out).2.2 | (with_reducible refine Kd.C_alloc ?_ _) | (with_reducible refine Kd.C_drewN ?_ _) | (with_reducible refine Kd.C_drew ?_))); (case side4 => exact (Kd.S_reads' HO_162001.out).2.1); rintro e w105 ⟨rfl, hb⟩; refine ⟨_, rfl, ?_⟩; have n0_ := Aside0.mk (Kd.R_below (by (with_reducible repeat (first | apply Kd.R_alloc | apply Kd.R_drewN | apply Kd.R_drew)); exact HO_162000.out) hb); have n1_ := Aside0.mk (Kd.S_below (by (with_reducible repeat (first | apply Kd.S_alloc | apply Kd.S_drewN | apply Kd.S_drew)); exact HO_162001.out) hb); have n2_ := Aside0.mk (blk_below (g := gb153) (o := .cells #[.slice A0_0 l0_0.length c0_0, .slice A0_1 l0_1.length c0_1] 34 (0, 0)) (by (with_reducible repeat (first | refine blk_drewN ?_ _ | refine blk_drew ?_ | refine blk_alloc ?_ _)); exact BK153.out) hb); have n3_ := Aside0.mk (blk_below (g := gb154) (o := .cells #[.slice none 0 0, .slice none 0 0] 34 (0, 0)) (by (with_reducible repeat (first | refine blk_drewN ?_ _ | refine blk_drew ?_ | refine blk_alloc ?_ _)); exact BK154.out) hb); have n4_ := Aside0.mk (blk_below (g := gb161) (o := .cells #[.slice Ao103 x162000_1.length co103, .slice Ao104 x162001_1.length co104] 34 (0, 0)) (by (with_reducible repeat (first | refine blk_drewN ?_ _ | refine blk_drew ?_ | refine blk_alloc ?_ _)); exact BK161.out) hb); have n5_ := Aside0.mk (below_step (by repeat (first | (with_reducible first | exact HB.out | apply below_alloc | apply pw_below_drewN | apply below_drew1 | refine below_set ?_ GE153.out | refine below_set ?_ GE154.out | refine below_set ?_ GE161.out) | exact HB.out)) hb); clear HO_162000; clear HO_162001; clear BK153; clear BK154; clear BK161; clear HB; have HO_162000 := n0_; have HO_162001 := n1_; have BK153 := n2_; have BK154 := n3_; have BK161 := n4_; have HB := n5_; clear n0_ n1_ n2_ n3_ n4_ n5_; (try clear hb); (try clear hb2); (try clear hk); (try clear hi); have hcz106_0 : w105.cell? ⟨gb161, 0, none⟩ = some (.slice Ao103 x162000_1.length co103) := (blk_cell BK161.out 0).trans rfl; have hcz106_1 : w105.cell? ⟨gb161, 1, none⟩ = some (.slice Ao104 x162001_1.length co104) := (blk_cell BK161.out 1).trans rfl; have hfz106_0 := blk_frozen BK161.out 0; have hfz106_1 := blk_frozen BK161.out 1; have p181 : 0 ≤ (x7_14 : Int) := of_decide_eq_true (by first | (with_reducible assumption) | assumption); have q181 : x7_14 < (x162001_1.length : Int) := of_decide_eq_true (by first | (with_reducible assumption) | assumption); obtain ⟨ad181, A181_0, c181_0, e181, hx181_0, hl181_0, hi181_0⟩ := at_L1 (Kd.S_reads' HO_162001.out).2.2 x7_14 p181 q181; cases e181; obtain ⟨ce181, hce181, hMe181, hcc181⟩ := Kd.S_get HO_162001.out [] x7_14 p181 (by first | exact q181 | exact of_decide_eq_true (by first | (with_reducible assumption) | assumption) | (have e_ := (Kd.S_reads' HO_162001.out).1; omega)); obtain ⟨ve181_0, rfl, ge181_0⟩ := hMe181; have hv181_0 := hcc181 0 _ rfl; rw [Nat.add_zero, show ((Kd.slice 3 (Kd.int .i64))).sz = 1 from rfl, Nat.mul_one] at hv181_0; replace hv181_0 := Option.some.inj (hv181_0.symm.trans hx181_0); rw [hv181_0] at ge181_0; have HL181_0 := Aside0.mk (show Kd.R (Kd.int .i64) 3 _ _ _ _ (rd_L1 x162001_1 x7_14) from ge181_0); clear hv181_0 ge181_0; have HX181_0 := Aside0.mk hx181_0; clear hcc181 hce181; have HR181_0 := Aside0.mk hi181_0; have HC181_0 := Aside0.mk hl181_0; clear hi181_0 hl181_0; replace p181 := eq_true p181; replace q181 := eq_true q181; have p99 : 0 ≤ (x6_1 : Int) := of_decide_eq_true (by first | (with_reducible assumption) | assumption); have q99 : (x6_1 : Int) < (((rd_L1 x162001_1 x7_14).length : Int) : Int) := of_decide_eq_true (by first | (with_reducible assumption) | assumption); obtain ⟨go99, co99, eo99, gb99, gl99, cl99, HG99⟩ := Kd.R_form HL181_0.out (by omega); (first | cases eo99 | (injection eo99 with ea_ en_ ec_; (first | subst ea_ | (injection ea_ with ea_; subst ea_)); subst ec_; clear en_)); have GB99 := Aside0.mk gb99; have GG99 := Aside0.mk HG99; clear gb99 gl99 HG99; obtain ⟨hx99_0, hf99_0⟩ := Kd.R_celln 0 HL181_0.out (x6_1 : Int) p99 q99; replace p99 := eq_true p99; replace q99 := eq_true q99; have hq107 : (x7_14 : Int) < (x162001_1.length : Int) := (by have h_ : (x7_14 : Int) < ((x162001_1.length : Int) : Int) := of_decide_eq_true (by first | (with_reducible assumption) | assumption); first | exact h_ | (have e_ := (Kd.S_reads' HO_162001.out).1; omega) | simpa only [List.length_set, List.length_set] using h_); obtain ⟨oki107, ce107, hcl107, hM107, hcc107, hok107, hbk107⟩ := Kd.S_borrow HO_162001.out [] (x7_14 : Int) (of_decide_eq_true (by first | (with_reducible assumption) | assumption)) (by first | exact hq107 | (have l_ := (Kd.S_reads' HO_162001.out).1; omega)); obtain ⟨ve107_0, rfl, ge107_0⟩ := hM107; have hv107 := hcc107 0 _ rfl; rw [Nat.add_zero, show ((Kd.slice 3 (Kd.int .i64))).sz = 1 from rfl, Nat.mul_one] at hv107; replace hv107 := Option.some.inj (hv107.symm.trans HX181_0.out); subst hv107; clear hcc107 hcl107; replace ge107_0 := (show Kd.R (Kd.int .i64) 3 _ _ _ _ (rd_L1 x162001_1 x7_14) from ge107_0); have HP107 := Kd.R_putg ge107_0 (x6_1 : Int) x1_1) | ((with_reducible refine gate_store (t := 3) (p := 65) rfl ?_); refine store_event (t := 3) (p := 65) (v := ?vo_w108) (w1 := (w105.setCell ⟨go99, (x6_1 : Int).toNat, none⟩ (.int .i64 x1_1))) ?hg ?ho ?hn ?hr ?_; (case ho => rfl); (case hg => rfl); (case hn => rfl); (case hr => first | (go_simp; done) | (go_simp; rfl)); intro w108 hw; have hg : w105.grownBy w108 (some go99) := (by rw [hw]; exact HP107.2); have hz_ : Kd.R (Kd.int .i64) 3 w108 w.heap.size oki107 (.slice (some ⟨go99, 0, none⟩) (rd_L1 x162001_1 x7_14).length c181_0) y182 := (by rw [hw, Ny182.out]; exact HP107.1); have hp_ : Kd.S (Kd.slice 3 (Kd.int .i64)) 24 w108 w.heap.size (fun k_ => some k_ ≠ (.slice Ao103 x162000_1.length co103 : Value).ownBlock) (.slice (some ad181) x162001_1.length co104) y184 := (by rw [Ny184.out]; exact hbk107 hg (fun k_ e_ => by injection e_ with e_; subst e_; exact ge107_0.1 _ rfl) (Kd.M_row hz_)); have hm_ := Kd.R_mono hz_ hok107; clear HP107 hbk107; have n0_ := Aside0.mk (Kd.R_grown1 (by (with_reducible repeat (first | apply Kd.R_alloc | apply Kd.R_drewN | apply Kd.R_drew)); exact HO_162000.out) rfl hg ((HL181_0.out.1 _ rfl).1)); have n1_ := Aside0.mk (hp_); have n2_ := Aside0.mk (blk_grown (g := gb153) (o := .cells #[.slice A0_0 l0_0.length c0_0, .slice A0_1 l0_1.length c0_1] 34 (0, 0)) (by (with_reducible repeat (first | refine blk_drewN ?_ _ | refine blk_drew ?_ | refine blk_alloc ?_ _)); exact BK153.out) hg (Kd.R_ne HL181_0.out BK153.out (by decide))); have n3_ := Aside0.mk (blk_grown (g := gb154) (o := .cells #[.slice none 0 0, .slice none 0 0] 34 (0, 0)) (by (with_reducible repeat (first | refine blk_drewN ?_ _ | refine blk_drew ?_ | refine blk_alloc ?_ _)); exact BK154.out) hg (Kd.R_ne HL181_0.out BK154.out (by decide))); have n4_ := Aside0.mk (blk_grown (g := gb161) (o := .cells #[.slice Ao103 x162000_1.length co103, .slice (some ad181) x162001_1.length co104] 34 (0, 0)) (by (with_reducible repeat (first | refine blk_drewN ?_ _ | refine blk_drew ?_ | refine blk_alloc ?_ _)); exact BK161.out) hg (Kd.R_ne HL181_0.out BK161.out (by decide))); have n5_ := Aside0.mk ((by rw [hw]; exact below_set (HB.out) GB99.out : Below w.heap.size w w108)); have n6_ := Aside0.mk (hm_); have n7_ := Aside0.mk ((Kd.R_reads' hm_).2.1); clear HO_162000; clear HO_162001; clear BK153; clear BK154; clear BK161; clear HB; clear HL181_0; have HO_162000 := n0_; have HO_162001 := n1_; have BK153 := n2_; have BK154 := n3_; have BK161 := n4_; have HB := n5_; have HL185 := n6_; have HC183 := n7_; clear n0_ n1_ n2_ n3_ n4_ n5_ n6_ n7_; clear hg hw hp_ hz_ hm_ hok107))
          go_roundg kj14
          case measure => have := HK1.out; have := HJ14.out; omega
          case rel => exact ⟨(t164), (wrap64 (x6_1 + 1)), (x162000_1), (y184), (.slice Ao103 x162000_1.length co103), (.slice (some ad181) x162001_1.length co104), (by first | rfl | (simp; done) | (simp [*]; done)), (by first | rfl | (simp; done) | (simp [*]; done)), H', ⟨by have := HK1.out; have := HJ14.out; omega⟩, ⟨by (with_reducible repeat (first | apply Kd.R_alloc | apply Kd.R_drewN | apply Kd.R_drew)); exact HO_162000.out⟩, ⟨by (with_reducible repeat (first | apply Kd.S_alloc | apply Kd.S_drewN | apply Kd.S_drew)); exact HO_162001.out⟩, ⟨by (with_reducible repeat (first | refine blk_drewN ?_ _ | refine blk_drew ?_ | refine blk_alloc ?_ _)); exact BK153.out⟩, ⟨by (with_reducible repeat (first | refine blk_drewN ?_ _ | refine blk_drew ?_ | refine blk_alloc ?_ _)); exact BK154.out⟩, ⟨by (with_reducible repeat (first | refine blk_drewN ?_ _ | refine blk_drew ?_ | refine blk_alloc ?_ _)); exact BK161.out⟩, ⟨by repeat (first | (with_reducible first | exact HB.out | apply below_alloc | apply pw_below_drewN | apply below_drew1 | refine below_set ?_ GE153.out | refine below_set ?_ GE154.out | refine below_set ?_ GE161.out) | exact HB.out)⟩⟩
         ·rw [if_neg c98] at H
          exact absurd H (by simp)
        ·rw [if_neg c97] at H
         exact absurd H (by simp)
       ·rw [if_neg c96] at H
        exact absurd H (by simp)
      ·rw [if_neg c95] at H
       exact absurd H (by simp)

end Go.Proofs.Ytfijlemaiiobaaa.F
