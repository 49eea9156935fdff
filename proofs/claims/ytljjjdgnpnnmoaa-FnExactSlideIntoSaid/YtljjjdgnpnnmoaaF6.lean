/- For each Go function named below: the plain Lean function that it computes, and that its call returns just that; conditions: those that each theorem names. -/
import Derived.Test.YtljjjdgnpnnmoaaF0
import Derived.Test.YtljjjdgnpnnmoaaF3
import Derived.Test.YtljjjdgnpnnmoaaF5
namespace Go.Proofs.Ytljjjdgnpnnmoaa.F
open Go.RowKit Go.Proofs.YtljjjdgnpnnmoaaW.PrintWords Go.Proofs.YtljjjdgnpnnmoaaW.PrintLast Go.Proofs.YtljjjdgnpnnmoaaW.PrintMore
attribute [local go_sem] max2_int min2_int max_two min_two max_three min_three max_four min_four   -- for this text's walks alone
set_option linter.unusedVariables false
set_option linter.unusedSimpArgs false

mutual
def spec_l13Into.l0 : Nat → List Int → List (List Int) → Int → Int → List Int → List Int → Option (List Int × (List (List Int)) × Int)
 | 0, _, _, _, _, _, _ => none
 | k + 1, x8, x10, x11, x12, x261000, x261001 => if 0 ≤ x11 then (if x11 < (x10.length : Int) then (if 0 ≤ (wrap64 (x12 + 1)) then (if (wrap64 (x12 + 1)) < ((rd_L1 x10 x11).length : Int) then (if (rd (rd_L1 x10 x11) (wrap64 (x12 + 1))) > 0 then (spec_l13Into.j1 k x8 x10 x11 x12 true x261000 x261001) else (if 0 ≤ (wrap64 (x11 + 1)) then (if (wrap64 (x11 + 1)) < (x10.length : Int) then (if 0 ≤ x12 then (if x12 < ((rd_L1 x10 (wrap64 (x11 + 1))).length : Int) then (spec_l13Into.j1 k x8 x10 x11 x12 (decide ((rd (rd_L1 x10 (wrap64 (x11 + 1))) x12) > 0)) x261000 x261001) else (none)) else (none)) else (none)) else (none))) else (none)) else (none)) else (none)) else (none)
def spec_l13Into.j1 : Nat → List Int → List (List Int) → Int → Int → Bool → List Int → List Int → Option (List Int × (List (List Int)) × Int)
 | 0, _, _, _, _, _, _, _ => none
 | k + 1, x8, x10, x11, x12, x57, x261000, x261001 => if x57 = true then (if 0 ≤ x11 then (if x11 < (x10.length : Int) then (if 0 ≤ (wrap64 (x12 + 1)) then (if (wrap64 (x12 + 1)) < ((rd_L1 x10 x11).length : Int) then (if 0 ≤ (wrap64 (x11 + 1)) then (if (wrap64 (x11 + 1)) < (x10.length : Int) then (if 0 ≤ x12 then (if x12 < ((rd_L1 x10 (wrap64 (x11 + 1))).length : Int) then (if (rd (rd_L1 x10 (wrap64 (x11 + 1))) x12) > 0 then (if (rd (rd_L1 x10 x11) (wrap64 (x12 + 1))) = 0 then (if x12 < ((rd_L1 x10 x11).length : Int) then ((some (x10.set (x11 : Int).toNat ((rd_L1 x10 x11).set (x12 : Int).toNat (rd (rd_L1 x10 (wrap64 (x11 + 1))) x12)) : List (List Int))).bind fun y280 => (if x12 < ((rd_L1 y280 (wrap64 (x11 + 1))).length : Int) then (spec_l13Into.l0 k x8 (y280.set ((wrap64 (x11 + 1)) : Int).toNat ((rd_L1 y280 (wrap64 (x11 + 1))).set (x12 : Int).toNat 0)) (wrap64 (x11 + 1)) x12 x261000 x261001) else (none))) else (none)) else (if (rd (rd_L1 x10 (wrap64 (x11 + 1))) x12) ≤ (rd (rd_L1 x10 x11) (wrap64 (x12 + 1))) then (if x12 < ((rd_L1 x10 x11).length : Int) then ((some (x10.set (x11 : Int).toNat ((rd_L1 x10 x11).set (x12 : Int).toNat (rd (rd_L1 x10 (wrap64 (x11 + 1))) x12)) : List (List Int))).bind fun y288 => (if x12 < ((rd_L1 y288 (wrap64 (x11 + 1))).length : Int) then (spec_l13Into.l0 k x8 (y288.set ((wrap64 (x11 + 1)) : Int).toNat ((rd_L1 y288 (wrap64 (x11 + 1))).set (x12 : Int).toNat 0)) (wrap64 (x11 + 1)) x12 x261000 x261001) else (none))) else (none)) else (if x12 < ((rd_L1 x10 x11).length : Int) then ((some (x10.set (x11 : Int).toNat ((rd_L1 x10 x11).set (x12 : Int).toNat (rd (rd_L1 x10 x11) (wrap64 (x12 + 1)))) : List (List Int))).bind fun y296 => (if (wrap64 (x12 + 1)) < ((rd_L1 y296 x11).length : Int) then (spec_l13Into.l0 k x8 (y296.set (x11 : Int).toNat ((rd_L1 y296 x11).set ((wrap64 (x12 + 1)) : Int).toNat 0)) x11 (wrap64 (x12 + 1)) x261000 x261001) else (none))) else (none)))) else (if x12 < ((rd_L1 x10 x11).length : Int) then ((some (x10.set (x11 : Int).toNat ((rd_L1 x10 x11).set (x12 : Int).toNat (rd (rd_L1 x10 x11) (wrap64 (x12 + 1)))) : List (List Int))).bind fun y304 => (if (wrap64 (x12 + 1)) < ((rd_L1 y304 x11).length : Int) then (spec_l13Into.l0 k x8 (y304.set (x11 : Int).toNat ((rd_L1 y304 x11).set ((wrap64 (x12 + 1)) : Int).toNat 0)) x11 (wrap64 (x12 + 1)) x261000 x261001) else (none))) else (none))) else (none)) else (none)) else (none)) else (none)) else (none)) else (none)) else (none)) else (none)) else ((spec_RemoveBox.f k x261000 x11).bind fun bt309 => ((spec_l13Tableau.f k x10 x8 bt309.1).bind fun bt313 => (some (bt313.1, bt313.2, x11))))
end
def spec_l13Into.f (k : Nat) (l0_0 : List Int) (l0_1 : List (List Int)) (a1 : Int) : Option (List Int × (List (List Int)) × Int) := (spec_ShapeOf.f k l0_0 l0_1).bind fun bt253 => ((spec_RemoveBox.f k l0_0 a1).bind fun bt261 => ((spec_l13Grid.f k l0_0 l0_1).bind fun t265 => (if 0 ≤ a1 then (if a1 < (l0_0.length : Int) then (spec_l13Into.l0 k bt261.1 t265 a1 (wrap64 ((rd l0_0 a1) - 1)) bt253.1 bt253.2.1) else (none)) else (none))))
theorem spec_l13Into.mono_l : ∀ k, (∀ y0 y1 y2 y3 y4 y5, LeO (spec_l13Into.l0 k y0 y1 y2 y3 y4 y5) (spec_l13Into.l0 (k + 1) y0 y1 y2 y3 y4 y5)) ∧ (∀ y0 y1 y2 y3 y4 y5 y6, LeO (spec_l13Into.j1 k y0 y1 y2 y3 y4 y5 y6) (spec_l13Into.j1 (k + 1) y0 y1 y2 y3 y4 y5 y6))
 | 0 => ⟨fun _ _ _ _ _ _ r h => by simp [spec_l13Into.l0] at h, fun _ _ _ _ _ _ _ r h => by simp [spec_l13Into.j1] at h⟩
 | k + 1 => by
  obtain ⟨ih0, ih1⟩ := spec_l13Into.mono_l k
  refine ⟨?_, ?_⟩
  ·intro y0 y1 y2 y3 y4 y5
   unfold spec_l13Into.l0
   repeat' first
   | (with_reducible exact ih0 _ _ _ _ _ _)
   | (with_reducible exact ih1 _ _ _ _ _ _ _)
   | (with_reducible exact spec_RemoveBox.mono _ _ _)
   | (with_reducible exact spec_ShapeOf.mono _ _ _)
   | (with_reducible exact spec_l13Grid.mono _ _ _)
   | (with_reducible exact spec_l13Tableau.mono _ _ _ _)
   | (with_reducible exact LeO.refl _)
   | (with_reducible exact LeO.none _)
   | (with_reducible refine LeO.ite ?_ ?_)
   | (with_reducible refine LeO.bind ?_ (fun _ => ?_))
   | exact ih0 _ _ _ _ _ _
   | exact ih1 _ _ _ _ _ _ _
   | exact spec_RemoveBox.mono _ _ _
   | exact spec_ShapeOf.mono _ _ _
   | exact spec_l13Grid.mono _ _ _
   | exact spec_l13Tableau.mono _ _ _ _
   | exact LeO.none _
   | refine LeO.ite ?_ ?_
   | refine LeO.bind ?_ (fun _ => ?_)
  ·intro y0 y1 y2 y3 y4 y5 y6
   unfold spec_l13Into.j1
   repeat' first
   | (with_reducible exact ih0 _ _ _ _ _ _)
   | (with_reducible exact ih1 _ _ _ _ _ _ _)
   | (with_reducible exact spec_RemoveBox.mono _ _ _)
   | (with_reducible exact spec_ShapeOf.mono _ _ _)
   | (with_reducible exact spec_l13Grid.mono _ _ _)
   | (with_reducible exact spec_l13Tableau.mono _ _ _ _)
   | (with_reducible exact LeO.refl _)
   | (with_reducible exact LeO.none _)
   | (with_reducible refine LeO.ite ?_ ?_)
   | (with_reducible refine LeO.bind ?_ (fun _ => ?_))
   | exact ih0 _ _ _ _ _ _
   | exact ih1 _ _ _ _ _ _ _
   | exact spec_RemoveBox.mono _ _ _
   | exact spec_ShapeOf.mono _ _ _
   | exact spec_l13Grid.mono _ _ _
   | exact spec_l13Tableau.mono _ _ _ _
   | exact LeO.none _
   | refine LeO.ite ?_ ?_
   | refine LeO.bind ?_ (fun _ => ?_)
theorem spec_l13Into.mono : ∀ a0 a1 a2 k, LeO (spec_l13Into.f k a0 a1 a2) (spec_l13Into.f (k + 1) a0 a1 a2) := by
 intro a0 a1 a2 k
 obtain ⟨ih0, ih1⟩ := spec_l13Into.mono_l k
 unfold spec_l13Into.f
 repeat' first
   | (with_reducible exact ih0 _ _ _ _ _ _)
   | (with_reducible exact ih1 _ _ _ _ _ _ _)
   | (with_reducible exact spec_RemoveBox.mono _ _ _)
   | (with_reducible exact spec_ShapeOf.mono _ _ _)
   | (with_reducible exact spec_l13Grid.mono _ _ _)
   | (with_reducible exact spec_l13Tableau.mono _ _ _ _)
   | (with_reducible exact LeO.refl _)
   | (with_reducible exact LeO.none _)
   | (with_reducible refine LeO.ite ?_ ?_)
   | (with_reducible refine LeO.bind ?_ (fun _ => ?_))
   | exact ih0 _ _ _ _ _ _
   | exact ih1 _ _ _ _ _ _ _
   | exact spec_RemoveBox.mono _ _ _
   | exact spec_ShapeOf.mono _ _ _
   | exact spec_l13Grid.mono _ _ _
   | exact spec_l13Tableau.mono _ _ _ _
   | exact LeO.none _
   | refine LeO.ite ?_ ?_
   | refine LeO.bind ?_ (fun _ => ?_)
set_option maxHeartbeats 8000000 in
set_option maxRecDepth 100000 in
theorem spec_l13Into.calls (k : Nat) (A0_0 : Option Addr) (c0_0 : Nat) (l0_0 : List Int) (A0_1 : Option Addr) (c0_1 : Nat) (l0_1 : List (List Int)) (a1 : Int) (r1 : List Int) (r2 : List (List Int)) (r3 : Int) (w : World) (hr0_0 : Kd.C (Kd.int .i64) w A0_0 l0_0.length l0_0) (hc0_0 : l0_0.length ≤ c0_0) (hr0_1 : Kd.C (Kd.slice 3 (Kd.int .i64)) w A0_1 l0_1.length l0_1) (hc0_1 : l0_1.length ≤ c0_1) (h : spec_l13Into.f k l0_0 l0_1 a1 = some (r1, r2, r3)) :
  Calls Try.prog 45 #[.agg #[.slice A0_0 l0_0.length c0_0, .slice A0_1 l0_1.length c0_1], .int .i64 a1] w fun e w' => ∃ v0_ v1_ : Value, e = .returned (.tuple #[.agg #[v0_, v1_], .int .i64 r3]) ∧ Kd.R (Kd.int .i64) 3 w' w.heap.size (fun _ => True) v0_ r1 ∧ Kd.S (Kd.slice 3 (Kd.int .i64)) 22 w' w.heap.size (fun k_ => some k_ ≠ (v0_ : Value).ownBlock) v1_ r2 ∧ Below w.heap.size w w' := by
 have hu28 := Try.underlying28
 have hu61 := Try.underlying61
 have HR0_0 := Aside0.mk hr0_0
 have HC0_0 := Aside0.mk hc0_0
 clear hr0_0 hc0_0
 have HR0_1 := Aside0.mk hr0_1
 have HC0_1 := Aside0.mk hc0_1
 clear hr0_1 hc0_1
 have HB := Aside0.mk (Below.refl w.heap.size w)
 have H : ((spec_ShapeOf.f k l0_0 l0_1).bind fun bt253 => ((spec_RemoveBox.f k l0_0 a1).bind fun bt261 => ((spec_l13Grid.f k l0_0 l0_1).bind fun t265 => (if 0 ≤ a1 then (if a1 < (l0_0.length : Int) then (spec_l13Into.l0 k bt261.1 t265 a1 (wrap64 ((rd l0_0 a1) - 1)) bt253.1 bt253.2.1) else (none)) else (none))))) = some (r1, r2, r3) := h
 clear h
 replace H := Option.bind_eq_some_iff.mp H
 obtain ⟨⟨t253, t256, t259⟩, A30, H⟩ := H
 replace H : ((spec_RemoveBox.f k l0_0 a1).bind fun bt261 => ((spec_l13Grid.f k l0_0 l0_1).bind fun t265 => (if 0 ≤ a1 then (if a1 < (l0_0.length : Int) then (spec_l13Into.l0 k bt261.1 t265 a1 (wrap64 ((rd l0_0 a1) - 1)) t253 t256) else (none)) else (none)))) = some (r1, r2, r3) := H
 have A3 := Aside0.mk A30
 clear A30
 replace H := Option.bind_eq_some_iff.mp H
 obtain ⟨⟨t261, t262⟩, A40, H⟩ := H
 replace H : ((spec_l13Grid.f k l0_0 l0_1).bind fun t265 => (if 0 ≤ a1 then (if a1 < (l0_0.length : Int) then (spec_l13Into.l0 k t261 t265 a1 (wrap64 ((rd l0_0 a1) - 1)) t253 t256) else (none)) else (none))) = some (r1, r2, r3) := H
 have A4 := Aside0.mk A40
 clear A40
 replace H := Option.bind_eq_some_iff.mp H
 obtain ⟨t265, A50, H⟩ := H
 replace H : (if 0 ≤ a1 then (if a1 < (l0_0.length : Int) then (spec_l13Into.l0 k t261 t265 a1 (wrap64 ((rd l0_0 a1) - 1)) t253 t256) else (none)) else (none)) = some (r1, r2, r3) := H
 have A5 := Aside0.mk A50
 clear A50
 by_cases c6 : 0 ≤ a1
 ·rw [if_pos c6] at H
  have c6b0 : decide (0 ≤ a1) = true := decide_eq_true c6
  clear c6
  by_cases c7 : a1 < (l0_0.length : Int)
  ·rw [if_pos c7] at H
   have c7b0 : decide (a1 < (l0_0.length : Int)) = true := decide_eq_true c7
   clear c7
   have H' := Aside0.mk H
   clear H
   go_enter Try.func45, Try.ntmps45
   go_wp2_with (first | ((with_reducible refine gate_dst (N := 2) rfl ?_); refine zX (N := 2) (cs := #[.slice A0_0 l0_0.length c0_0, .slice A0_1 l0_1.length c0_1]) (t := 28) ?_; intro gb251 hg w8 hbox hb; have n0_ := Aside0.mk (below_step (by repeat (first | (with_reducible first | exact HB.out | apply below_alloc | apply pw_below_drewN | apply below_drew1) | exact HB.out)) hb); have n1_ := Aside0.mk (hbox); have n2_ := Aside0.mk ((by rw [hg]; exact (below_size (by repeat (first | (with_reducible first | exact HB.out | apply below_alloc | apply pw_below_drewN | apply below_drew1) | exact HB.out))) : w.heap.size ≤ gb251)); have n3_ := Aside0.mk ((by rw [hg]; exact (below_size (by repeat (first | (with_reducible first | exact HB.out | apply below_alloc | apply pw_below_drewN | apply below_drew1) | exact HB.out))) : w.heap.size ≤ gb251)); clear HB; have HB := n0_; have BK251 := n1_; have GW251 := n2_; have GE251 := n3_; clear n0_ n1_ n2_ n3_; clear hb hbox hg) | ((with_reducible refine gate_dst (N := 4) rfl ?_); refine zX (N := 4) (cs := #[.slice none 0 0, .slice none 0 0]) (t := 28) ?_; intro gb252 hg w9 hbox hb; have n0_ := Aside0.mk (blk_below (g := gb251) (o := .cells #[.slice A0_0 l0_0.length c0_0, .slice A0_1 l0_1.length c0_1] 28 (0, 0)) (by (with_reducible repeat (first | refine blk_drewN ?_ _ | refine blk_drew ?_ | refine blk_alloc ?_ _)); exact BK251.out) hb); have n1_ := Aside0.mk (below_step (by repeat (first | (with_reducible first | exact HB.out | apply below_alloc | apply pw_below_drewN | apply below_drew1 | refine below_set ?_ GE251.out) | exact HB.out)) hb); have n2_ := Aside0.mk (hbox); have n3_ := Aside0.mk ((by rw [hg]; exact (below_size (by repeat (first | (with_reducible first | exact HB.out | apply below_alloc | apply pw_below_drewN | apply below_drew1 | refine below_set ?_ GE251.out) | exact HB.out))) : w.heap.size ≤ gb252)); have n4_ := Aside0.mk ((by rw [hg]; exact (below_size (by repeat (first | (with_reducible first | exact HB.out | apply below_alloc | apply pw_below_drewN | apply below_drew1 | refine below_set ?_ GE251.out) | exact HB.out))) : w.heap.size ≤ gb252)); have n5_ := Aside0.mk ((by rw [hg]; exact Nat.ne_of_lt (blk_lt (g := gb251) (o := .cells #[.slice A0_0 l0_0.length c0_0, .slice A0_1 l0_1.length c0_1] 28 (0, 0)) (by (with_reducible repeat (first | refine blk_drewN ?_ _ | refine blk_drew ?_ | refine blk_alloc ?_ _)); exact BK251.out)) : gb251 ≠ gb252)); have n6_ := Aside0.mk ((by rw [hg]; exact Nat.ne_of_gt (blk_lt (g := gb251) (o := .cells #[.slice A0_0 l0_0.length c0_0, .slice A0_1 l0_1.length c0_1] 28 (0, 0)) (by (with_reducible repeat (first | refine blk_drewN ?_ _ | refine blk_drew ?_ | refine blk_alloc ?_ _)); exact BK251.out)) : gb252 ≠ gb251)); clear BK251; clear HB; have BK251 := n0_; have HB := n1_; have BK252 := n2_; have GW252 := n3_; have GE252 := n4_; have NB251_252 := n5_; have NB252_251 := n6_; clear n0_ n1_ n2_ n3_ n4_ n5_ n6_; clear hb hbox hg; have hnb10 := NB251_252.out; have hnc10 := NB252_251.out; have hcz11_0 : w9.cell? ⟨gb251, 0, none⟩ = some (.slice A0_0 l0_0.length c0_0) := (blk_cell BK251.out 0).trans rfl; have hcz11_1 : w9.cell? ⟨gb251, 1, none⟩ = some (.slice A0_1 l0_1.length c0_1) := (blk_cell BK251.out 1).trans rfl; have hfz11_0 := blk_frozen BK251.out 0; have hfz11_1 := blk_frozen BK251.out 1) | ((with_reducible refine gate_callee (f := 53) rfl ?_); refine zG (some 19) Try.func53 #[.agg #[.slice A0_0 l0_0.length c0_0, .slice A0_1 l0_1.length c0_1]] ?_; (with_reducible refine (spec_ShapeOf.calls k _ _ l0_0 _ _ l0_1 t253 t256 t259 _ ?side1 ?side2 ?side3 ?side4 A3.out).mono ?_); (case side1 => repeat (first | exact (Kd.C_below HR0_0.out HB.out) | (with_reducible refine Kd.C_alloc ?_ _) | (with_reducible refine Kd.C_drewN ?_ _) | (with_reducible refine Kd.C_drew ?_))); (case side2 => exact HC0_0.out); (case side3 => repeat (first | exact (Kd.C_below HR0_1.out HB.out) | (with_reducible refine Kd.C_alloc ?_ _) | (with_reducible refine Kd.C_drewN ?_ _) | (with_reducible refine Kd.C_drew ?_))); (case side4 => exact HC0_1.out); rintro e w12 ⟨v254, v257, rfl, ho0, ho1, hb⟩; refine ⟨_, rfl, ?_⟩; have n0_ := Aside0.mk (Kd.R_lower ho0 (below_size (by repeat (first | (with_reducible first | exact HB.out | apply below_alloc | apply pw_below_drewN | apply below_drew1 | refine below_set ?_ GE251.out | refine below_set ?_ GE252.out) | exact HB.out)))); have n1_ := Aside0.mk (Kd.R_lower ho1 (below_size (by repeat (first | (with_reducible first | exact HB.out | apply below_alloc | apply pw_below_drewN | apply below_drew1 | refine below_set ?_ GE251.out | refine below_set ?_ GE252.out) | exact HB.out)))); have n2_ := Aside0.mk (blk_below (g := gb251) (o := .cells #[.slice A0_0 l0_0.length c0_0, .slice A0_1 l0_1.length c0_1] 28 (0, 0)) (by (with_reducible repeat (first | refine blk_drewN ?_ _ | refine blk_drew ?_ | refine blk_alloc ?_ _)); exact BK251.out) hb); have n3_ := Aside0.mk (blk_below (g := gb252) (o := .cells #[.slice none 0 0, .slice none 0 0] 28 (0, 0)) (by (with_reducible repeat (first | refine blk_drewN ?_ _ | refine blk_drew ?_ | refine blk_alloc ?_ _)); exact BK252.out) hb); have n4_ := Aside0.mk (below_step (by repeat (first | (with_reducible first | exact HB.out | apply below_alloc | apply pw_below_drewN | apply below_drew1 | refine below_set ?_ GE251.out | refine below_set ?_ GE252.out) | exact HB.out)) hb); clear BK251; clear BK252; clear HB; have HO255 := n0_; have HO258 := n1_; have BK251 := n2_; have BK252 := n3_; have HB := n4_; clear n0_ n1_ n2_ n3_ n4_; (try clear hb); (try clear hb2); (try clear hk); (try clear hi); (try clear ho0); (try clear ho1)) | ((with_reducible refine gate_dst (N := 6) rfl ?_); refine zX (N := 6) (cs := #[.slice none 0 0, .slice none 0 0]) (t := 61) ?_; intro gb260 hg w13 hbox hb; have n0_ := Aside0.mk (Kd.R_below (by (with_reducible repeat (first | apply Kd.R_alloc | apply Kd.R_drewN | apply Kd.R_drew)); exact HO255.out) hb); have n1_ := Aside0.mk (Kd.R_below (by (with_reducible repeat (first | apply Kd.R_alloc | apply Kd.R_drewN | apply Kd.R_drew)); exact HO258.out) hb); have n2_ := Aside0.mk (blk_below (g := gb251) (o := .cells #[.slice A0_0 l0_0.length c0_0, .slice A0_1 l0_1.length c0_1] 28 (0, 0)) (by (with_reducible repeat (first | refine blk_drewN ?_ _ | refine blk_drew ?_ | refine blk_alloc ?_ _)); exact BK251.out) hb); have n3_ := Aside0.mk (blk_below (g := gb252) (o := .cells #[.slice none 0 0, .slice none 0 0] 28 (0, 0)) (by (with_reducible repeat (first | refine blk_drewN ?_ _ | refine blk_drew ?_ | refine blk_alloc ?_ _)); exact BK252.out) hb); have n4_ := Aside0.mk (below_step (by repeat (first | (with_reducible first | exact HB.out | apply below_alloc | apply pw_below_drewN | apply below_drew1 | refine below_set ?_ GE251.out | refine below_set ?_ GE252.out) | exact HB.out)) hb); have n5_ := Aside0.mk (hbox); have n6_ := Aside0.mk ((by rw [hg]; exact (below_size (by repeat (first | (with_reducible first | exact HB.out | apply below_alloc | apply pw_below_drewN | apply below_drew1 | refine below_set ?_ GE251.out | refine below_set ?_ GE252.out) | exact HB.out))) : w.heap.size ≤ gb260)); have n7_ := Aside0.mk ((by rw [hg]; exact (below_size (by repeat (first | (with_reducible first | exact HB.out | apply below_alloc | apply pw_below_drewN | apply below_drew1 | refine below_set ?_ GE251.out | refine below_set ?_ GE252.out) | exact HB.out))) : w.heap.size ≤ gb260)); have n8_ := Aside0.mk ((by rw [hg]; exact Nat.ne_of_lt (blk_lt (g := gb251) (o := .cells #[.slice A0_0 l0_0.length c0_0, .slice A0_1 l0_1.length c0_1] 28 (0, 0)) (by (with_reducible repeat (first | refine blk_drewN ?_ _ | refine blk_drew ?_ | refine blk_alloc ?_ _)); exact BK251.out)) : gb251 ≠ gb260)); have n9_ := Aside0.mk ((by rw [hg]; exact Nat.ne_of_gt (blk_lt (g := gb251) (o := .cells #[.slice A0_0 l0_0.length c0_0, .slice A0_1 l0_1.length c0_1] 28 (0, 0)) (by (with_reducible repeat (first | refine blk_drewN ?_ _ | refine blk_drew ?_ | refine blk_alloc ?_ _)); exact BK251.out)) : gb260 ≠ gb251)); have n10_ := Aside0.mk ((by rw [hg]; exact Nat.ne_of_lt (blk_lt (g := gb252) (o := .cells #[.slice none 0 0, .slice none 0 0] 28 (0, 0)) (by (with_reducible repeat (first | refine blk_drewN ?_ _ | refine blk_drew ?_ | refine blk_alloc ?_ _)); exact BK252.out)) : gb252 ≠ gb260)); have n11_ := Aside0.mk ((by rw [hg]; exact Nat.ne_of_gt (blk_lt (g := gb252) (o := .cells #[.slice none 0 0, .slice none 0 0] 28 (0, 0)) (by (with_reducible repeat (first | refine blk_drewN ?_ _ | refine blk_drew ?_ | refine blk_alloc ?_ _)); exact BK252.out)) : gb260 ≠ gb252)); clear HO255; clear HO258; clear BK251; clear BK252; clear HB; have HO255 := n0_; have HO258 := n1_; have BK251 := n2_; have BK252 := n3_; have HB := n4_; have BK260 := n5_; have GW260 := n6_; have GE260 := n7_; have NB251_260 := n8_; have NB260_251 := n9_; have NB252_260 := n10_; have NB260_252 := n11_; clear n0_ n1_ n2_ n3_ n4_ n5_ n6_ n7_ n8_ n9_ n10_ n11_; clear hb hbox hg; obtain ⟨Ao14, co14, eo14⟩ := Kd.R_slice HO255.out; subst eo14; have hnb15 := NB260_251.out; have hnc15 := NB251_260.out; have hnb16 := NB260_252.out; have hnc16 := NB252_260.out; have hcz17_0 : w13.cell? ⟨gb260, 0, none⟩ = some (.slice none 0 0) := (blk_cell BK260.out 0).trans rfl; have hcz17_1 : w13.cell? ⟨gb260, 1, none⟩ = some (.slice none 0 0) := (blk_cell BK260.out 1).trans rfl; have hfz17_0 := blk_frozen BK260.out 0; have hfz17_1 := blk_frozen BK260.out 1; obtain ⟨Ao18, co18, eo18⟩ := Kd.R_slice HO258.out; subst eo18; have hcz19_0 : w13.cell? ⟨gb251, 0, none⟩ = some (.slice A0_0 l0_0.length c0_0) := (blk_cell BK251.out 0).trans rfl; have hcz19_1 : w13.cell? ⟨gb251, 1, none⟩ = some (.slice A0_1 l0_1.length c0_1) := (blk_cell BK251.out 1).trans rfl; have hfz19_0 := blk_frozen BK251.out 0; have hfz19_1 := blk_frozen BK251.out 1) | ((with_reducible refine gate_callee (f := 79) rfl ?_); refine zG (some 26) Try.func79 #[.slice A0_0 l0_0.length c0_0, .int .i64 a1] ?_; (with_reducible refine (spec_RemoveBox.calls k _ _ l0_0 a1 t261 t262 _ ?side1 ?side2 A4.out).mono ?_); (case side1 => exact Kd.C_below HR0_0.out (by repeat (first | (with_reducible first | exact HB.out | apply below_alloc | apply pw_below_drewN | apply below_drew1 | refine below_set ?_ GE251.out | refine below_set ?_ GE252.out | refine below_set ?_ GE260.out) | exact HB.out))); (case side2 => exact HC0_0.out); rintro e w20 ⟨v263, rfl, ho0, hb⟩; refine ⟨_, rfl, ?_⟩; have n0_ := Aside0.mk (Kd.R_elder' (by (with_reducible repeat (first | apply Kd.R_alloc | apply Kd.R_drewN | apply Kd.R_drew)); exact (Kd.R_mono (Kd.R_far (p := ⟨gb260, 1, none⟩) (Kd.R_far (p := ⟨gb260, 0, none⟩) (Kd.R_types HO255.out BK260.out (by decide)) (fun _ hk => hk.2) (.slice Ao14 t253.length co14)) (fun _ hk => hk.2) (.slice Ao18 t256.length co18)) (fun _ h_ => h_.1))) (Kd.R_base ho0) hb); have n1_ := Aside0.mk (Kd.R_elder' (by (with_reducible repeat (first | apply Kd.R_alloc | apply Kd.R_drewN | apply Kd.R_drew)); exact (Kd.R_mono (Kd.R_far (p := ⟨gb260, 1, none⟩) (Kd.R_far (p := ⟨gb260, 0, none⟩) (Kd.R_types HO258.out BK260.out (by decide)) (fun _ hk => hk.2) (.slice Ao14 t253.length co14)) (fun _ hk => hk.2) (.slice Ao18 t256.length co18)) (fun _ h_ => h_.1))) (Kd.R_base ho0) hb); have n2_ := Aside0.mk (Kd.R_lower (Kd.R_new' (Kd.R_new' ho0 (Kd.R_lt (by (with_reducible repeat (first | apply Kd.R_alloc | apply Kd.R_drewN | apply Kd.R_drew)); exact (Kd.R_mono (Kd.R_far (p := ⟨gb260, 1, none⟩) (Kd.R_far (p := ⟨gb260, 0, none⟩) (Kd.R_types HO255.out BK260.out (by decide)) (fun _ hk => hk.2) (.slice Ao14 t253.length co14)) (fun _ hk => hk.2) (.slice Ao18 t256.length co18)) (fun _ h_ => h_.1))))) (Kd.R_lt (by (with_reducible repeat (first | apply Kd.R_alloc | apply Kd.R_drewN | apply Kd.R_drew)); exact (Kd.R_mono (Kd.R_far (p := ⟨gb260, 1, none⟩) (Kd.R_far (p := ⟨gb260, 0, none⟩) (Kd.R_types HO258.out BK260.out (by decide)) (fun _ hk => hk.2) (.slice Ao14 t253.length co14)) (fun _ hk => hk.2) (.slice Ao18 t256.length co18)) (fun _ h_ => h_.1))))) (below_size (by repeat (first | (with_reducible first | exact HB.out | apply below_alloc | apply pw_below_drewN | apply below_drew1 | refine below_set ?_ GE251.out | refine below_set ?_ GE252.out | refine below_set ?_ GE260.out) | exact HB.out)))); have n3_ := Aside0.mk (blk_below (g := gb251) (o := .cells #[.slice A0_0 l0_0.length c0_0, .slice A0_1 l0_1.length c0_1] 28 (0, 0)) (by (with_reducible repeat (first | refine blk_drewN ?_ _ | refine blk_drew ?_ | refine blk_alloc ?_ _)); refine blk_far ?_ NB251_260.out _; (with_reducible repeat (first | refine blk_drewN ?_ _ | refine blk_drew ?_ | refine blk_alloc ?_ _)); refine blk_far ?_ NB251_260.out _; (with_reducible repeat (first | refine blk_drewN ?_ _ | refine blk_drew ?_ | refine blk_alloc ?_ _)); exact BK251.out) hb); have n4_ := Aside0.mk (blk_below (g := gb252) (o := .cells #[.slice none 0 0, .slice none 0 0] 28 (0, 0)) (by (with_reducible repeat (first | refine blk_drewN ?_ _ | refine blk_drew ?_ | refine blk_alloc ?_ _)); refine blk_far ?_ NB252_260.out _; (with_reducible repeat (first | refine blk_drewN ?_ _ | refine blk_drew ?_ | refine blk_alloc ?_ _)); refine blk_far ?_ NB252_260.out _; (with_reducible repeat (first | refine blk_drewN ?_ _ | refine blk_drew ?_ | refine blk_alloc ?_ _)); exact BK252.out) hb); have n5_ := Aside0.mk (blk_below (g := gb260) (o := .cells #[.slice Ao14 t253.length co14, .slice Ao18 t256.length co18] 61 (0, 0)) (by (with_reducible repeat (first | refine blk_drewN ?_ _ | refine blk_drew ?_ | refine blk_alloc ?_ _)); refine blk_put (cs := #[.slice Ao14 t253.length co14, .slice none 0 0]) ?_ 1 _ rfl; (with_reducible repeat (first | refine blk_drewN ?_ _ | refine blk_drew ?_ | refine blk_alloc ?_ _)); refine blk_put (cs := #[.slice none 0 0, .slice none 0 0]) ?_ 0 _ rfl; (with_reducible repeat (first | refine blk_drewN ?_ _ | refine blk_drew ?_ | refine blk_alloc ?_ _)); exact BK260.out) hb); have n6_ := Aside0.mk (below_step (by repeat (first | (with_reducible first | exact HB.out | apply below_alloc | apply pw_below_drewN | apply below_drew1 | refine below_set ?_ GE251.out | refine below_set ?_ GE252.out | refine below_set ?_ GE260.out) | exact HB.out)) hb); clear HO255; clear HO258; clear BK251; clear BK252; clear BK260; clear HB; have HO255 := n0_; have HO258 := n1_; have HO264 := n2_; have BK251 := n3_; have BK252 := n4_; have BK260 := n5_; have HB := n6_; clear n0_ n1_ n2_ n3_ n4_ n5_ n6_; (try clear hb); (try clear hb2); (try clear hk); (try clear hi); (try clear ho0); have hcz21_0 : w20.cell? ⟨gb251, 0, none⟩ = some (.slice A0_0 l0_0.length c0_0) := (blk_cell BK251.out 0).trans rfl; have hcz21_1 : w20.cell? ⟨gb251, 1, none⟩ = some (.slice A0_1 l0_1.length c0_1) := (blk_cell BK251.out 1).trans rfl; have hfz21_0 := blk_frozen BK251.out 0; have hfz21_1 := blk_frozen BK251.out 1) | ((with_reducible refine gate_callee (f := 55) rfl ?_); refine zG (some 30) Try.func55 #[.agg #[.slice A0_0 l0_0.length c0_0, .slice A0_1 l0_1.length c0_1]] ?_; (with_reducible refine (spec_l13Grid.calls k _ _ l0_0 _ _ l0_1 t265 _ ?side1 ?side2 ?side3 ?side4 A5.out).mono ?_); (case side1 => repeat (first | exact (Kd.C_below HR0_0.out HB.out) | (with_reducible refine Kd.C_alloc ?_ _) | (with_reducible refine Kd.C_drewN ?_ _) | (with_reducible refine Kd.C_drew ?_))); (case side2 => exact HC0_0.out); (case side3 => repeat (first | exact (Kd.C_below HR0_1.out HB.out) | (with_reducible refine Kd.C_alloc ?_ _) | (with_reducible refine Kd.C_drewN ?_ _) | (with_reducible refine Kd.C_drew ?_))); (case side4 => exact HC0_1.out); rintro e w22 ⟨v266, rfl, ho0, hb⟩; refine ⟨_, rfl, ?_⟩; have n0_ := Aside0.mk (Kd.R_below (by (with_reducible repeat (first | apply Kd.R_alloc | apply Kd.R_drewN | apply Kd.R_drew)); exact HO255.out) hb); have n1_ := Aside0.mk (Kd.R_below (by (with_reducible repeat (first | apply Kd.R_alloc | apply Kd.R_drewN | apply Kd.R_drew)); exact HO258.out) hb); have n2_ := Aside0.mk (Kd.R_below (by (with_reducible repeat (first | apply Kd.R_alloc | apply Kd.R_drewN | apply Kd.R_drew)); exact HO264.out) hb); have n3_ := Aside0.mk (Kd.S_lower (Kd.S_new' (Kd.S_new' (Kd.S_new' ho0 (Kd.R_lt (by (with_reducible repeat (first | apply Kd.R_alloc | apply Kd.R_drewN | apply Kd.R_drew)); exact HO255.out))) (Kd.R_lt (by (with_reducible repeat (first | apply Kd.R_alloc | apply Kd.R_drewN | apply Kd.R_drew)); exact HO258.out))) (Kd.R_lt (by (with_reducible repeat (first | apply Kd.R_alloc | apply Kd.R_drewN | apply Kd.R_drew)); exact HO264.out))) (below_size (by repeat (first | (with_reducible first | exact HB.out | apply below_alloc | apply pw_below_drewN | apply below_drew1 | refine below_set ?_ GE251.out | refine below_set ?_ GE252.out | refine below_set ?_ GE260.out) | exact HB.out)))); have n4_ := Aside0.mk (blk_below (g := gb251) (o := .cells #[.slice A0_0 l0_0.length c0_0, .slice A0_1 l0_1.length c0_1] 28 (0, 0)) (by (with_reducible repeat (first | refine blk_drewN ?_ _ | refine blk_drew ?_ | refine blk_alloc ?_ _)); exact BK251.out) hb); have n5_ := Aside0.mk (blk_below (g := gb252) (o := .cells #[.slice none 0 0, .slice none 0 0] 28 (0, 0)) (by (with_reducible repeat (first | refine blk_drewN ?_ _ | refine blk_drew ?_ | refine blk_alloc ?_ _)); exact BK252.out) hb); have n6_ := Aside0.mk (blk_below (g := gb260) (o := .cells #[.slice Ao14 t253.length co14, .slice Ao18 t256.length co18] 61 (0, 0)) (by (with_reducible repeat (first | refine blk_drewN ?_ _ | refine blk_drew ?_ | refine blk_alloc ?_ _)); exact BK260.out) hb); have n7_ := Aside0.mk (below_step (by repeat (first | (with_reducible first | exact HB.out | apply below_alloc | apply pw_below_drewN | apply below_drew1 | refine below_set ?_ GE251.out | refine below_set ?_ GE252.out | refine below_set ?_ GE260.out) | exact HB.out)) hb); clear HO255; clear HO258; clear HO264; clear BK251; clear BK252; clear BK260; clear HB; have HO255 := n0_; have HO258 := n1_; have HO264 := n2_; have HO267 := n3_; have BK251 := n4_; have BK252 := n5_; have BK260 := n6_; have HB := n7_; clear n0_ n1_ n2_ n3_ n4_ n5_ n6_ n7_; (try clear hb); (try clear hb2); (try clear hk); (try clear hi); (try clear ho0); have hcz23_0 : w22.cell? ⟨gb251, 0, none⟩ = some (.slice A0_0 l0_0.length c0_0) := (blk_cell BK251.out 0).trans rfl; have hcz23_1 : w22.cell? ⟨gb251, 1, none⟩ = some (.slice A0_1 l0_1.length c0_1) := (blk_cell BK251.out 1).trans rfl; have hfz23_0 := blk_frozen BK251.out 0; have hfz23_1 := blk_frozen BK251.out 1; have p268 : 0 ≤ (a1 : Int) := of_decide_eq_true (by first | (with_reducible assumption) | assumption); have q268 : a1 < (l0_0.length : Int) := of_decide_eq_true (by first | (with_reducible assumption) | assumption); obtain ⟨ad268, e268, hx268_0⟩ := Kd.at_int HR0_0.out a1 p268 q268; cases e268; replace hx268_0 := (HB.out.cell (World.block_lt_of_cell? w _ hx268_0)).trans hx268_0; replace p268 := eq_true p268; replace q268 := eq_true q268))
   go_loopg [11, 12] k (fun kq v11 v12 w' => ∃ (x8_1 : List Int) (x10_1 : List (List Int)) (x11_1 : Int) (x12_1 : Int) (x261000_1 : List Int) (x261001_1 : List Int) (u261000 : Value) (u261001 : Value), v11 = .int .i64 x11_1 ∧ v12 = .int .i64 x12_1 ∧ Aside0 (spec_l13Into.l0 kq x8_1 x10_1 x11_1 x12_1 x261000_1 x261001_1 = some (r1, r2, r3)) ∧ Aside0 (kq ≤ k) ∧ Aside0 (Kd.R (Kd.int .i64) 3 w' w.heap.size (fun k_ => some k_ ≠ (u261000 : Value).ownBlock ∧ some k_ ≠ (u261001 : Value).ownBlock) v263 x8_1) ∧ Aside0 (Kd.S (Kd.slice 3 (Kd.int .i64)) 22 w' w.heap.size (fun k_ => some k_ ≠ (v263 : Value).ownBlock ∧ some k_ ≠ (u261000 : Value).ownBlock ∧ some k_ ≠ (u261001 : Value).ownBlock) v266 x10_1) ∧ Aside0 (Kd.R (Kd.int .i64) 3 w' w.heap.size (fun k_ => some k_ ≠ (v263 : Value).ownBlock ∧ some k_ ≠ (u261001 : Value).ownBlock) u261000 x261000_1) ∧ Aside0 (Kd.R (Kd.int .i64) 3 w' w.heap.size (fun k_ => some k_ ≠ (v263 : Value).ownBlock ∧ some k_ ≠ (u261000 : Value).ownBlock) u261001 x261001_1) ∧ Aside0 (w'.heap[gb251]? = some (.cells #[(.slice (some ad268) l0_0.length c0_0), (.slice A0_1 l0_1.length c0_1)] 28 (0, 0))) ∧ Aside0 (w'.heap[gb252]? = some (.cells #[(.slice none 0 0), (.slice none 0 0)] 28 (0, 0))) ∧ Aside0 (w'.heap[gb260]? = some (.cells #[u261000, u261001] 61 (0, 0))) ∧ Aside0 (Below w.heap.size w w'))
   case atStart => exact ⟨(t261), (t265), (a1), (wrap64 ((rd l0_0 a1) - 1)), (t253), (t256), (.slice Ao14 t253.length co14), (.slice Ao18 t256.length co18), (by first | rfl | (simp; done) | (simp [*]; done)), (by first | rfl | (simp; done) | (simp [*]; done)), H', ⟨Nat.le_refl _⟩, ⟨by (with_reducible repeat (first | apply Kd.R_alloc | apply Kd.R_drewN | apply Kd.R_drew)); exact Kd.R_mono HO264.out (fun _ hk => ⟨hk.1.2, hk.2⟩)⟩, ⟨by (with_reducible repeat (first | apply Kd.S_alloc | apply Kd.S_drewN | apply Kd.S_drew)); exact Kd.S_mono HO267.out (fun _ hk => ⟨hk.2, ⟨hk.1.1.2, hk.1.2⟩⟩)⟩, ⟨by (with_reducible repeat (first | apply Kd.R_alloc | apply Kd.R_drewN | apply Kd.R_drew)); exact Kd.R_mono HO255.out (fun _ hk => ⟨hk.2, hk.1⟩)⟩, ⟨by (with_reducible repeat (first | apply Kd.R_alloc | apply Kd.R_drewN | apply Kd.R_drew)); exact Kd.R_mono HO258.out (fun _ hk => ⟨hk.2, hk.1⟩)⟩, ⟨by (with_reducible repeat (first | refine blk_drewN ?_ _ | refine blk_drew ?_ | refine blk_alloc ?_ _)); exact BK251.out⟩, ⟨by (with_reducible repeat (first | refine blk_drewN ?_ _ | refine blk_drew ?_ | refine blk_alloc ?_ _)); exact BK252.out⟩, ⟨by (with_reducible repeat (first | refine blk_drewN ?_ _ | refine blk_drew ?_ | refine blk_alloc ?_ _)); exact BK260.out⟩, ⟨by repeat (first | (with_reducible first | exact HB.out | apply below_alloc | apply pw_below_drewN | apply below_drew1 | refine below_set ?_ GE251.out | refine below_set ?_ GE252.out | refine below_set ?_ GE260.out) | exact HB.out)⟩⟩
   case round =>
    clear H'
    try clear c1
    try clear p2
    try clear q2
    try clear hx2
    try clear c4
    try clear c5
    try clear c6
    try clear c6b0
    try clear p6
    try clear c7
    try clear c7b0
    try clear c10
    try clear c15
    try clear c16
    try clear hcz11_0
    try clear hcz11_1
    try clear hcz17_0
    try clear hcz17_1
    try clear hcz19_0
    try clear hcz19_1
    try clear hcz21_0
    try clear hcz21_1
    try clear hcz23_0
    try clear hcz23_1
    try clear hfz11_0
    try clear hfz11_1
    try clear hfz17_0
    try clear hfz17_1
    try clear hfz19_0
    try clear hfz19_1
    try clear hfz21_0
    try clear hfz21_1
    try clear hfz23_0
    try clear hfz23_1
    try clear hx268_0
    try clear p268
    try clear q268
    obtain ⟨x8_1, x10_1, x11_1, x12_1, x261000_1, x261001_1, u261000, u261001, rfl, rfl, HA, HK1, HO_8, HO_10, HO_261000, HO_261001, BK251, BK252, BK260, HB⟩ := hrel
    cases gk with
    | zero => exact absurd HA.out (by simp [spec_l13Into.l0])
    | succ k1 =>
     have H := HA.out
     clear HA
     simp only [spec_l13Into.l0] at H
     have HC24 := Aside0.mk H
     clear H
     go_upto_region 6 with (fail)
     go_cut [57] (fun v57 wc => ∃ (kq : Nat) (x57_23 : Bool), v57 = .bool x57_23 ∧ Aside0 (spec_l13Into.j1 kq x8_1 x10_1 x11_1 x12_1 x57_23 x261000_1 x261001_1 = some (r1, r2, r3)) ∧ Aside0 (kq ≤ k1) ∧ Aside0 (Kd.R (Kd.int .i64) 3 wc w.heap.size (fun k_ => some k_ ≠ (u261000 : Value).ownBlock ∧ some k_ ≠ (u261001 : Value).ownBlock) v263 x8_1) ∧ Aside0 (Kd.S (Kd.slice 3 (Kd.int .i64)) 22 wc w.heap.size (fun k_ => some k_ ≠ (v263 : Value).ownBlock ∧ some k_ ≠ (u261000 : Value).ownBlock ∧ some k_ ≠ (u261001 : Value).ownBlock) v266 x10_1) ∧ Aside0 (Kd.R (Kd.int .i64) 3 wc w.heap.size (fun k_ => some k_ ≠ (v263 : Value).ownBlock ∧ some k_ ≠ (u261001 : Value).ownBlock) u261000 x261000_1) ∧ Aside0 (Kd.R (Kd.int .i64) 3 wc w.heap.size (fun k_ => some k_ ≠ (v263 : Value).ownBlock ∧ some k_ ≠ (u261000 : Value).ownBlock) u261001 x261001_1) ∧ Aside0 (wc.heap[gb251]? = some (.cells #[(.slice (some ad268) l0_0.length c0_0), (.slice A0_1 l0_1.length c0_1)] 28 (0, 0))) ∧ Aside0 (wc.heap[gb252]? = some (.cells #[(.slice none 0 0), (.slice none 0 0)] 28 (0, 0))) ∧ Aside0 (wc.heap[gb260]? = some (.cells #[u261000, u261001] 61 (0, 0))) ∧ Aside0 (Below w.heap.size w wc))
     case first =>
      have H := HC24.out
      clear HC24
      by_cases c25 : 0 ≤ x11_1
      ·rw [if_pos c25] at H
       have c25b0 : decide (0 ≤ x11_1) = true := decide_eq_true c25
       clear c25
       (first | rw [c25b0] | (simp only [i64_w, i32_w]; rw [c25b0]) | skip)
       by_cases c26 : x11_1 < (x10_1.length : Int)
       ·rw [if_pos c26] at H
        have c26b0 : decide (x11_1 < (x10_1.length : Int)) = true := decide_eq_true c26
        clear c26
        obtain ⟨ji27, hji27⟩ : ∃ j_ : Int, (wrap64 (x12_1 + 1)) = j_ := ⟨_, rfl⟩
        replace H : (if 0 ≤ (ji27) then (if (ji27) < ((rd_L1 x10_1 x11_1).length : Int) then (if (rd (rd_L1 x10_1 x11_1) (ji27)) > 0 then (spec_l13Into.j1 k1 x8_1 x10_1 x11_1 x12_1 true x261000_1 x261001_1) else (if 0 ≤ (wrap64 (x11_1 + 1)) then (if (wrap64 (x11_1 + 1)) < (x10_1.length : Int) then (if 0 ≤ x12_1 then (if x12_1 < ((rd_L1 x10_1 (wrap64 (x11_1 + 1))).length : Int) then (spec_l13Into.j1 k1 x8_1 x10_1 x11_1 x12_1 (decide ((rd (rd_L1 x10_1 (wrap64 (x11_1 + 1))) x12_1) > 0)) x261000_1 x261001_1) else (none)) else (none)) else (none)) else (none))) else (none)) else (none)) = some (r1, r2, r3) := by first | (rw [hji27] at H; exact H) | (simp only [hji27] at H ⊢; exact H)
        have hji27w : (IntKind.i64.wrap (x12_1 + 1)) = ji27 := (i64_w _).trans hji27
        by_cases c28 : 0 ≤ (ji27)
        ·rw [if_pos c28] at H
         have c28b0 : decide (0 ≤ (ji27)) = true := decide_eq_true c28
         clear c28
         by_cases c29 : (ji27) < ((rd_L1 x10_1 x11_1).length : Int)
         ·rw [if_pos c29] at H
          have c29b0 : decide ((ji27) < ((rd_L1 x10_1 x11_1).length : Int)) = true := decide_eq_true c29
          clear c29
          by_cases c30 : (rd (rd_L1 x10_1 x11_1) (ji27)) > 0
          ·rw [if_pos c30] at H
           have c30b0 : decide (0 < (rd (rd_L1 x10_1 x11_1) (ji27))) = true := decide_eq_true c30
           clear c30
           have H' := Aside0.mk H
           clear H
           obtain ⟨Ao31, co31, eo31⟩ := Kd.S_slice HO_10.out
           subst eo31
           have p269 : 0 ≤ (x11_1 : Int) := of_decide_eq_true (by first | (with_reducible assumption) | assumption)
           have q269 : x11_1 < (x10_1.length : Int) := of_decide_eq_true (by first | (with_reducible assumption) | assumption)
           obtain ⟨ad269, A269_0, c269_0, e269, hx269_0, hl269_0, hi269_0⟩ := at_L1 (Kd.S_reads' HO_10.out).2.2 x11_1 p269 q269
           cases e269
           obtain ⟨ce269, hce269, hMe269, hcc269⟩ := Kd.S_get HO_10.out [] x11_1 p269 (by first | exact q269 | exact of_decide_eq_true (by first | (with_reducible assumption) | assumption) | (have e_ := (Kd.S_reads' HO_10.out).1; omega))
           obtain ⟨ve269_0, rfl, ge269_0⟩ := hMe269
           have hv269_0 := hcc269 0 _ rfl
           rw [Nat.add_zero, show ((Kd.slice 3 (Kd.int .i64))).sz = 1 from rfl, Nat.mul_one] at hv269_0
           replace hv269_0 := Option.some.inj (hv269_0.symm.trans hx269_0)
           rw [hv269_0] at ge269_0
           have HL269_0 := Aside0.mk (show Kd.R (Kd.int .i64) 3 _ _ _ _ (rd_L1 x10_1 x11_1) from ge269_0)
           clear hv269_0 ge269_0
           have HX269_0 := Aside0.mk hx269_0
           clear hcc269 hce269
           have HR269_0 := Aside0.mk hi269_0
           have HC269_0 := Aside0.mk hl269_0
           clear hi269_0 hl269_0
           replace p269 := eq_true p269
           replace q269 := eq_true q269
           have p270 : 0 ≤ ((ji27) : Int) := of_decide_eq_true (by first | (with_reducible assumption) | assumption)
           have q270 : (ji27) < ((rd_L1 x10_1 x11_1).length : Int) := of_decide_eq_true (by first | (with_reducible assumption) | assumption)
           obtain ⟨ad270, e270, hx270_0⟩ := Kd.at_int (by repeat (first | (with_reducible exact HR269_0.out) | (with_reducible refine Kd.C_alloc ?_ _) | (with_reducible refine Kd.C_drewN ?_ _) | (with_reducible refine Kd.C_drew ?_) | exact HR269_0.out)) (ji27) p270 q270
           cases e270
           replace p270 := eq_true p270
           replace q270 := eq_true q270
           go_wp2
           go_meet
           case rel => exact ⟨_, (true), (by first | rfl | (simp; done) | (simp [*]; done)), H', ⟨by have := HK1.out; first | omega | exact Nat.le_refl _⟩, ⟨by (with_reducible repeat (first | apply Kd.R_alloc | apply Kd.R_drewN | apply Kd.R_drew)); exact HO_8.out⟩, ⟨by (with_reducible repeat (first | apply Kd.S_alloc | apply Kd.S_drewN | apply Kd.S_drew)); exact HO_10.out⟩, ⟨by (with_reducible repeat (first | apply Kd.R_alloc | apply Kd.R_drewN | apply Kd.R_drew)); exact HO_261000.out⟩, ⟨by (with_reducible repeat (first | apply Kd.R_alloc | apply Kd.R_drewN | apply Kd.R_drew)); exact HO_261001.out⟩, ⟨by (with_reducible repeat (first | refine blk_drewN ?_ _ | refine blk_drew ?_ | refine blk_alloc ?_ _)); exact BK251.out⟩, ⟨by (with_reducible repeat (first | refine blk_drewN ?_ _ | refine blk_drew ?_ | refine blk_alloc ?_ _)); exact BK252.out⟩, ⟨by (with_reducible repeat (first | refine blk_drewN ?_ _ | refine blk_drew ?_ | refine blk_alloc ?_ _)); exact BK260.out⟩, ⟨by repeat (first | (with_reducible first | exact HB.out | apply below_alloc | apply pw_below_drewN | apply below_drew1 | refine below_set ?_ GE251.out | refine below_set ?_ GE252.out | refine below_set ?_ GE260.out) | exact HB.out)⟩⟩
          ·rw [if_neg c30] at H
           have c30b0 : decide (0 < (rd (rd_L1 x10_1 x11_1) (ji27))) = false := decide_eq_false c30
           clear c30
           obtain ⟨ji32, hji32⟩ : ∃ j_ : Int, (wrap64 (x11_1 + 1)) = j_ := ⟨_, rfl⟩
           replace H : (if 0 ≤ (ji32) then (if (ji32) < (x10_1.length : Int) then (if 0 ≤ x12_1 then (if x12_1 < ((rd_L1 x10_1 (ji32)).length : Int) then (spec_l13Into.j1 k1 x8_1 x10_1 x11_1 x12_1 (decide ((rd (rd_L1 x10_1 (ji32)) x12_1) > 0)) x261000_1 x261001_1) else (none)) else (none)) else (none)) else (none)) = some (r1, r2, r3) := by first | (rw [hji32] at H; exact H) | (simp only [hji32] at H ⊢; exact H)
           have hji32w : (IntKind.i64.wrap (x11_1 + 1)) = ji32 := (i64_w _).trans hji32
           by_cases c33 : 0 ≤ (ji32)
           ·rw [if_pos c33] at H
            have c33b0 : decide (0 ≤ (ji32)) = true := decide_eq_true c33
            clear c33
            by_cases c34 : (ji32) < (x10_1.length : Int)
            ·rw [if_pos c34] at H
             have c34b0 : decide ((ji32) < (x10_1.length : Int)) = true := decide_eq_true c34
             clear c34
             by_cases c35 : 0 ≤ x12_1
             ·rw [if_pos c35] at H
              have c35b0 : decide (0 ≤ x12_1) = true := decide_eq_true c35
              clear c35
              by_cases c36 : x12_1 < ((rd_L1 x10_1 (ji32)).length : Int)
              ·rw [if_pos c36] at H
               have c36b0 : decide (x12_1 < ((rd_L1 x10_1 (ji32)).length : Int)) = true := decide_eq_true c36
               clear c36
               have H' := Aside0.mk H
               clear H
               obtain ⟨Ao37, co37, eo37⟩ := Kd.S_slice HO_10.out
               subst eo37
               have p269 : 0 ≤ (x11_1 : Int) := of_decide_eq_true (by first | (with_reducible assumption) | assumption)
               have q269 : x11_1 < (x10_1.length : Int) := of_decide_eq_true (by first | (with_reducible assumption) | assumption)
               obtain ⟨ad269, A269_0, c269_0, e269, hx269_0, hl269_0, hi269_0⟩ := at_L1 (Kd.S_reads' HO_10.out).2.2 x11_1 p269 q269
               cases e269
               obtain ⟨ce269, hce269, hMe269, hcc269⟩ := Kd.S_get HO_10.out [] x11_1 p269 (by first | exact q269 | exact of_decide_eq_true (by first | (with_reducible assumption) | assumption) | (have e_ := (Kd.S_reads' HO_10.out).1; omega))
               obtain ⟨ve269_0, rfl, ge269_0⟩ := hMe269
               have hv269_0 := hcc269 0 _ rfl
               rw [Nat.add_zero, show ((Kd.slice 3 (Kd.int .i64))).sz = 1 from rfl, Nat.mul_one] at hv269_0
               replace hv269_0 := Option.some.inj (hv269_0.symm.trans hx269_0)
               rw [hv269_0] at ge269_0
               have HL269_0 := Aside0.mk (show Kd.R (Kd.int .i64) 3 _ _ _ _ (rd_L1 x10_1 x11_1) from ge269_0)
               clear hv269_0 ge269_0
               have HX269_0 := Aside0.mk hx269_0
               clear hcc269 hce269
               have HR269_0 := Aside0.mk hi269_0
               have HC269_0 := Aside0.mk hl269_0
               clear hi269_0 hl269_0
               replace p269 := eq_true p269
               replace q269 := eq_true q269
               have p270 : 0 ≤ ((ji27) : Int) := of_decide_eq_true (by first | (with_reducible assumption) | assumption)
               have q270 : (ji27) < ((rd_L1 x10_1 x11_1).length : Int) := of_decide_eq_true (by first | (with_reducible assumption) | assumption)
               obtain ⟨ad270, e270, hx270_0⟩ := Kd.at_int (by repeat (first | (with_reducible exact HR269_0.out) | (with_reducible refine Kd.C_alloc ?_ _) | (with_reducible refine Kd.C_drewN ?_ _) | (with_reducible refine Kd.C_drew ?_) | exact HR269_0.out)) (ji27) p270 q270
               cases e270
               replace p270 := eq_true p270
               replace q270 := eq_true q270
               have p271 : 0 ≤ ((ji32) : Int) := of_decide_eq_true (by first | (with_reducible assumption) | assumption)
               have q271 : (ji32) < (x10_1.length : Int) := of_decide_eq_true (by first | (with_reducible assumption) | assumption)
               obtain ⟨ad271, A271_0, c271_0, e271, hx271_0, hl271_0, hi271_0⟩ := at_L1 (Kd.S_reads' HO_10.out).2.2 (ji32) p271 q271
               obtain rfl : ad269 = ad271 := (by injection e271)
               obtain ⟨ce271, hce271, hMe271, hcc271⟩ := Kd.S_get HO_10.out [] (ji32) p271 (by first | exact q271 | exact of_decide_eq_true (by first | (with_reducible assumption) | assumption) | (have e_ := (Kd.S_reads' HO_10.out).1; omega))
               obtain ⟨ve271_0, rfl, ge271_0⟩ := hMe271
               have hv271_0 := hcc271 0 _ rfl
               rw [Nat.add_zero, show ((Kd.slice 3 (Kd.int .i64))).sz = 1 from rfl, Nat.mul_one] at hv271_0
               replace hv271_0 := Option.some.inj (hv271_0.symm.trans hx271_0)
               rw [hv271_0] at ge271_0
               have HL271_0 := Aside0.mk (show Kd.R (Kd.int .i64) 3 _ _ _ _ (rd_L1 x10_1 (ji32)) from ge271_0)
               clear hv271_0 ge271_0
               have HX271_0 := Aside0.mk hx271_0
               clear hcc271 hce271
               have HR271_0 := Aside0.mk hi271_0
               have HC271_0 := Aside0.mk hl271_0
               clear hi271_0 hl271_0
               replace p271 := eq_true p271
               replace q271 := eq_true q271
               have p272 : 0 ≤ (x12_1 : Int) := of_decide_eq_true (by first | (with_reducible assumption) | assumption)
               have q272 : x12_1 < ((rd_L1 x10_1 (ji32)).length : Int) := of_decide_eq_true (by first | (with_reducible assumption) | assumption)
               obtain ⟨ad272, e272, hx272_0⟩ := Kd.at_int (by repeat (first | (with_reducible exact HR271_0.out) | (with_reducible refine Kd.C_alloc ?_ _) | (with_reducible refine Kd.C_drewN ?_ _) | (with_reducible refine Kd.C_drew ?_) | exact HR271_0.out)) x12_1 p272 q272
               cases e272
               replace p272 := eq_true p272
               replace q272 := eq_true q272
               go_wp2
               go_meet
               case rel => exact ⟨_, (decide ((rd (rd_L1 x10_1 (ji32)) x12_1) > 0)), (by first | rfl | (simp; done) | (simp only [← hji32] <;> (first | rfl | simp)) | (simp [*]; done)), H', ⟨by have := HK1.out; first | omega | exact Nat.le_refl _⟩, ⟨by (with_reducible repeat (first | apply Kd.R_alloc | apply Kd.R_drewN | apply Kd.R_drew)); exact HO_8.out⟩, ⟨by (with_reducible repeat (first | apply Kd.S_alloc | apply Kd.S_drewN | apply Kd.S_drew)); exact HO_10.out⟩, ⟨by (with_reducible repeat (first | apply Kd.R_alloc | apply Kd.R_drewN | apply Kd.R_drew)); exact HO_261000.out⟩, ⟨by (with_reducible repeat (first | apply Kd.R_alloc | apply Kd.R_drewN | apply Kd.R_drew)); exact HO_261001.out⟩, ⟨by (with_reducible repeat (first | refine blk_drewN ?_ _ | refine blk_drew ?_ | refine blk_alloc ?_ _)); exact BK251.out⟩, ⟨by (with_reducible repeat (first | refine blk_drewN ?_ _ | refine blk_drew ?_ | refine blk_alloc ?_ _)); exact BK252.out⟩, ⟨by (with_reducible repeat (first | refine blk_drewN ?_ _ | refine blk_drew ?_ | refine blk_alloc ?_ _)); exact BK260.out⟩, ⟨by repeat (first | (with_reducible first | exact HB.out | apply below_alloc | apply pw_below_drewN | apply below_drew1 | refine below_set ?_ GE251.out | refine below_set ?_ GE252.out | refine below_set ?_ GE260.out) | exact HB.out)⟩⟩
              ·rw [if_neg c36] at H
               exact absurd H (by simp)
             ·rw [if_neg c35] at H
              exact absurd H (by simp)
            ·rw [if_neg c34] at H
             exact absurd H (by simp)
           ·rw [if_neg c33] at H
            exact absurd H (by simp)
         ·rw [if_neg c29] at H
          exact absurd H (by simp)
        ·rw [if_neg c28] at H
         exact absurd H (by simp)
       ·rw [if_neg c26] at H
        exact absurd H (by simp)
      ·rw [if_neg c25] at H
       exact absurd H (by simp)
     case rest =>
      clear HC24
      try clear c1
      try clear c2
      try clear p2
      try clear q2
      try clear hx2
      try clear c3
      try clear c4
      try clear c5
      try clear c6
      try clear c6b0
      try clear p6
      try clear c7
      try clear c7b0
      try clear c10
      try clear c15
      try clear c16
      try clear c25
      try clear c25b0
      try clear c26
      try clear c26b0
      try clear p26
      try clear q26
      try clear hx26
      try clear c27
      try clear p27
      try clear q27
      try clear hx27
      try clear c28
      try clear c28b0
      try clear c29
      try clear c29b0
      try clear c30
      try clear c30b0
      try clear c33
      try clear c33b0
      try clear c34
      try clear c34b0
      try clear c35
      try clear c35b0
      try clear c36
      try clear c36b0
      try clear hcz11_0
      try clear hcz11_1
      try clear hcz17_0
      try clear hcz17_1
      try clear hcz19_0
      try clear hcz19_1
      try clear hcz21_0
      try clear hcz21_1
      try clear hcz23_0
      try clear hcz23_1
      try clear hfz11_0
      try clear hfz11_1
      try clear hfz17_0
      try clear hfz17_1
      try clear hfz19_0
      try clear hfz19_1
      try clear hfz21_0
      try clear hfz21_1
      try clear hfz23_0
      try clear hfz23_1
      try clear hx268_0
      try clear hx269_0
      try clear hx270_0
      try clear hx271_0
      try clear hx272_0
      try clear p2
      try clear p268
      try clear p269
      try clear p270
      try clear p271
      try clear p272
      try clear p6
      try clear q2
      try clear q268
      try clear q269
      try clear q270
      try clear q271
      try clear q272
      obtain ⟨kq, x57_23, rfl, HA, HJ23, HO_8, HO_10, HO_261000, HO_261001, BK251, BK252, BK260, HB⟩ := hcut
      cases kq with
      | zero => exact absurd HA.out (by simp [spec_l13Into.j1])
      | succ kj23 =>
       have H := HA.out
       clear HA
       simp only [spec_l13Into.j1] at H
       by_cases c38 : x57_23 = true
       ·subst c38
        have H1 : (if 0 ≤ x11_1 then (if x11_1 < (x10_1.length : Int) then (if 0 ≤ (wrap64 (x12_1 + 1)) then (if (wrap64 (x12_1 + 1)) < ((rd_L1 x10_1 x11_1).length : Int) then (if 0 ≤ (wrap64 (x11_1 + 1)) then (if (wrap64 (x11_1 + 1)) < (x10_1.length : Int) then (if 0 ≤ x12_1 then (if x12_1 < ((rd_L1 x10_1 (wrap64 (x11_1 + 1))).length : Int) then (if (rd (rd_L1 x10_1 (wrap64 (x11_1 + 1))) x12_1) > 0 then (if (rd (rd_L1 x10_1 x11_1) (wrap64 (x12_1 + 1))) = 0 then (if x12_1 < ((rd_L1 x10_1 x11_1).length : Int) then ((some (x10_1.set (x11_1 : Int).toNat ((rd_L1 x10_1 x11_1).set (x12_1 : Int).toNat (rd (rd_L1 x10_1 (wrap64 (x11_1 + 1))) x12_1)) : List (List Int))).bind fun y280 => (if x12_1 < ((rd_L1 y280 (wrap64 (x11_1 + 1))).length : Int) then (spec_l13Into.l0 kj23 x8_1 (y280.set ((wrap64 (x11_1 + 1)) : Int).toNat ((rd_L1 y280 (wrap64 (x11_1 + 1))).set (x12_1 : Int).toNat 0)) (wrap64 (x11_1 + 1)) x12_1 x261000_1 x261001_1) else (none))) else (none)) else (if (rd (rd_L1 x10_1 (wrap64 (x11_1 + 1))) x12_1) ≤ (rd (rd_L1 x10_1 x11_1) (wrap64 (x12_1 + 1))) then (if x12_1 < ((rd_L1 x10_1 x11_1).length : Int) then ((some (x10_1.set (x11_1 : Int).toNat ((rd_L1 x10_1 x11_1).set (x12_1 : Int).toNat (rd (rd_L1 x10_1 (wrap64 (x11_1 + 1))) x12_1)) : List (List Int))).bind fun y288 => (if x12_1 < ((rd_L1 y288 (wrap64 (x11_1 + 1))).length : Int) then (spec_l13Into.l0 kj23 x8_1 (y288.set ((wrap64 (x11_1 + 1)) : Int).toNat ((rd_L1 y288 (wrap64 (x11_1 + 1))).set (x12_1 : Int).toNat 0)) (wrap64 (x11_1 + 1)) x12_1 x261000_1 x261001_1) else (none))) else (none)) else (if x12_1 < ((rd_L1 x10_1 x11_1).length : Int) then ((some (x10_1.set (x11_1 : Int).toNat ((rd_L1 x10_1 x11_1).set (x12_1 : Int).toNat (rd (rd_L1 x10_1 x11_1) (wrap64 (x12_1 + 1)))) : List (List Int))).bind fun y296 => (if (wrap64 (x12_1 + 1)) < ((rd_L1 y296 x11_1).length : Int) then (spec_l13Into.l0 kj23 x8_1 (y296.set (x11_1 : Int).toNat ((rd_L1 y296 x11_1).set ((wrap64 (x12_1 + 1)) : Int).toNat 0)) x11_1 (wrap64 (x12_1 + 1)) x261000_1 x261001_1) else (none))) else (none)))) else (if x12_1 < ((rd_L1 x10_1 x11_1).length : Int) then ((some (x10_1.set (x11_1 : Int).toNat ((rd_L1 x10_1 x11_1).set (x12_1 : Int).toNat (rd (rd_L1 x10_1 x11_1) (wrap64 (x12_1 + 1)))) : List (List Int))).bind fun y304 => (if (wrap64 (x12_1 + 1)) < ((rd_L1 y304 x11_1).length : Int) then (spec_l13Into.l0 kj23 x8_1 (y304.set (x11_1 : Int).toNat ((rd_L1 y304 x11_1).set ((wrap64 (x12_1 + 1)) : Int).toNat 0)) x11_1 (wrap64 (x12_1 + 1)) x261000_1 x261001_1) else (none))) else (none))) else (none)) else (none)) else (none)) else (none)) else (none)) else (none)) else (none)) else (none)) = some (r1, r2, r3) := by rw [if_pos rfl] at H; exact H
        clear H
        have H := H1
        clear H1
        by_cases c39 : 0 ≤ x11_1
        ·rw [if_pos c39] at H
         have c39b0 : decide (0 ≤ x11_1) = true := decide_eq_true c39
         clear c39
         by_cases c40 : x11_1 < (x10_1.length : Int)
         ·rw [if_pos c40] at H
          have c40b0 : decide (x11_1 < (x10_1.length : Int)) = true := decide_eq_true c40
          clear c40
          obtain ⟨ji41, hji41⟩ : ∃ j_ : Int, (wrap64 (x12_1 + 1)) = j_ := ⟨_, rfl⟩
          replace H : (if 0 ≤ (ji41) then (if (ji41) < ((rd_L1 x10_1 x11_1).length : Int) then (if 0 ≤ (wrap64 (x11_1 + 1)) then (if (wrap64 (x11_1 + 1)) < (x10_1.length : Int) then (if 0 ≤ x12_1 then (if x12_1 < ((rd_L1 x10_1 (wrap64 (x11_1 + 1))).length : Int) then (if (rd (rd_L1 x10_1 (wrap64 (x11_1 + 1))) x12_1) > 0 then (if (rd (rd_L1 x10_1 x11_1) (ji41)) = 0 then (if x12_1 < ((rd_L1 x10_1 x11_1).length : Int) then ((some (x10_1.set (x11_1 : Int).toNat ((rd_L1 x10_1 x11_1).set (x12_1 : Int).toNat (rd (rd_L1 x10_1 (wrap64 (x11_1 + 1))) x12_1)) : List (List Int))).bind fun y280 => (if x12_1 < ((rd_L1 y280 (wrap64 (x11_1 + 1))).length : Int) then (spec_l13Into.l0 kj23 x8_1 (y280.set ((wrap64 (x11_1 + 1)) : Int).toNat ((rd_L1 y280 (wrap64 (x11_1 + 1))).set (x12_1 : Int).toNat 0)) (wrap64 (x11_1 + 1)) x12_1 x261000_1 x261001_1) else (none))) else (none)) else (if (rd (rd_L1 x10_1 (wrap64 (x11_1 + 1))) x12_1) ≤ (rd (rd_L1 x10_1 x11_1) (ji41)) then (if x12_1 < ((rd_L1 x10_1 x11_1).length : Int) then ((some (x10_1.set (x11_1 : Int).toNat ((rd_L1 x10_1 x11_1).set (x12_1 : Int).toNat (rd (rd_L1 x10_1 (wrap64 (x11_1 + 1))) x12_1)) : List (List Int))).bind fun y288 => (if x12_1 < ((rd_L1 y288 (wrap64 (x11_1 + 1))).length : Int) then (spec_l13Into.l0 kj23 x8_1 (y288.set ((wrap64 (x11_1 + 1)) : Int).toNat ((rd_L1 y288 (wrap64 (x11_1 + 1))).set (x12_1 : Int).toNat 0)) (wrap64 (x11_1 + 1)) x12_1 x261000_1 x261001_1) else (none))) else (none)) else (if x12_1 < ((rd_L1 x10_1 x11_1).length : Int) then ((some (x10_1.set (x11_1 : Int).toNat ((rd_L1 x10_1 x11_1).set (x12_1 : Int).toNat (rd (rd_L1 x10_1 x11_1) (ji41))) : List (List Int))).bind fun y296 => (if (ji41) < ((rd_L1 y296 x11_1).length : Int) then (spec_l13Into.l0 kj23 x8_1 (y296.set (x11_1 : Int).toNat ((rd_L1 y296 x11_1).set ((ji41) : Int).toNat 0)) x11_1 ji41 x261000_1 x261001_1) else (none))) else (none)))) else (if x12_1 < ((rd_L1 x10_1 x11_1).length : Int) then ((some (x10_1.set (x11_1 : Int).toNat ((rd_L1 x10_1 x11_1).set (x12_1 : Int).toNat (rd (rd_L1 x10_1 x11_1) (ji41))) : List (List Int))).bind fun y304 => (if (ji41) < ((rd_L1 y304 x11_1).length : Int) then (spec_l13Into.l0 kj23 x8_1 (y304.set (x11_1 : Int).toNat ((rd_L1 y304 x11_1).set ((ji41) : Int).toNat 0)) x11_1 ji41 x261000_1 x261001_1) else (none))) else (none))) else (none)) else (none)) else (none)) else (none)) else (none)) else (none)) = some (r1, r2, r3) := by first | (rw [hji41] at H; exact H) | (simp only [hji41] at H ⊢; exact H)
          have hji41w : (IntKind.i64.wrap (x12_1 + 1)) = ji41 := (i64_w _).trans hji41
          by_cases c42 : 0 ≤ (ji41)
          ·rw [if_pos c42] at H
           have c42b0 : decide (0 ≤ (ji41)) = true := decide_eq_true c42
           clear c42
           by_cases c43 : (ji41) < ((rd_L1 x10_1 x11_1).length : Int)
           ·rw [if_pos c43] at H
            have c43b0 : decide ((ji41) < ((rd_L1 x10_1 x11_1).length : Int)) = true := decide_eq_true c43
            clear c43
            obtain ⟨ji44, hji44⟩ : ∃ j_ : Int, (wrap64 (x11_1 + 1)) = j_ := ⟨_, rfl⟩
            replace H : (if 0 ≤ (ji44) then (if (ji44) < (x10_1.length : Int) then (if 0 ≤ x12_1 then (if x12_1 < ((rd_L1 x10_1 (ji44)).length : Int) then (if (rd (rd_L1 x10_1 (ji44)) x12_1) > 0 then (if (rd (rd_L1 x10_1 x11_1) (ji41)) = 0 then (if x12_1 < ((rd_L1 x10_1 x11_1).length : Int) then ((some (x10_1.set (x11_1 : Int).toNat ((rd_L1 x10_1 x11_1).set (x12_1 : Int).toNat (rd (rd_L1 x10_1 (ji44)) x12_1)) : List (List Int))).bind fun y280 => (if x12_1 < ((rd_L1 y280 (ji44)).length : Int) then (spec_l13Into.l0 kj23 x8_1 (y280.set ((ji44) : Int).toNat ((rd_L1 y280 (ji44)).set (x12_1 : Int).toNat 0)) ji44 x12_1 x261000_1 x261001_1) else (none))) else (none)) else (if (rd (rd_L1 x10_1 (ji44)) x12_1) ≤ (rd (rd_L1 x10_1 x11_1) (ji41)) then (if x12_1 < ((rd_L1 x10_1 x11_1).length : Int) then ((some (x10_1.set (x11_1 : Int).toNat ((rd_L1 x10_1 x11_1).set (x12_1 : Int).toNat (rd (rd_L1 x10_1 (ji44)) x12_1)) : List (List Int))).bind fun y288 => (if x12_1 < ((rd_L1 y288 (ji44)).length : Int) then (spec_l13Into.l0 kj23 x8_1 (y288.set ((ji44) : Int).toNat ((rd_L1 y288 (ji44)).set (x12_1 : Int).toNat 0)) ji44 x12_1 x261000_1 x261001_1) else (none))) else (none)) else (if x12_1 < ((rd_L1 x10_1 x11_1).length : Int) then ((some (x10_1.set (x11_1 : Int).toNat ((rd_L1 x10_1 x11_1).set (x12_1 : Int).toNat (rd (rd_L1 x10_1 x11_1) (ji41))) : List (List Int))).bind fun y296 => (if (ji41) < ((rd_L1 y296 x11_1).length : Int) then (spec_l13Into.l0 kj23 x8_1 (y296.set (x11_1 : Int).toNat ((rd_L1 y296 x11_1).set ((ji41) : Int).toNat 0)) x11_1 ji41 x261000_1 x261001_1) else (none))) else (none)))) else (if x12_1 < ((rd_L1 x10_1 x11_1).length : Int) then ((some (x10_1.set (x11_1 : Int).toNat ((rd_L1 x10_1 x11_1).set (x12_1 : Int).toNat (rd (rd_L1 x10_1 x11_1) (ji41))) : List (List Int))).bind fun y304 => (if (ji41) < ((rd_L1 y304 x11_1).length : Int) then (spec_l13Into.l0 kj23 x8_1 (y304.set (x11_1 : Int).toNat ((rd_L1 y304 x11_1).set ((ji41) : Int).toNat 0)) x11_1 ji41 x261000_1 x261001_1) else (none))) else (none))) else (none)) else (none)) else (none)) else (none)) = some (r1, r2, r3) := by first | (rw [hji44] at H; exact H) | (simp only [hji44] at H ⊢; exact H)
            have hji44w : (IntKind.i64.wrap (x11_1 + 1)) = ji44 := (i64_w _).trans hji44
            by_cases c45 : 0 ≤ (ji44)
            ·rw [if_pos c45] at H
             have c45b0 : decide (0 ≤ (ji44)) = true := decide_eq_true c45
             clear c45
             by_cases c46 : (ji44) < (x10_1.length : Int)
             ·rw [if_pos c46] at H
              have c46b0 : decide ((ji44) < (x10_1.length : Int)) = true := decide_eq_true c46
              clear c46
              by_cases c47 : 0 ≤ x12_1
              ·rw [if_pos c47] at H
               have c47b0 : decide (0 ≤ x12_1) = true := decide_eq_true c47
               clear c47
               by_cases c48 : x12_1 < ((rd_L1 x10_1 (ji44)).length : Int)
               ·rw [if_pos c48] at H
                have c48b0 : decide (x12_1 < ((rd_L1 x10_1 (ji44)).length : Int)) = true := decide_eq_true c48
                clear c48
                by_cases c49 : (rd (rd_L1 x10_1 (ji44)) x12_1) > 0
                ·rw [if_pos c49] at H
                 have c49b0 : decide (0 < (rd (rd_L1 x10_1 (ji44)) x12_1)) = true := decide_eq_true c49
                 clear c49
                 by_cases c50 : (rd (rd_L1 x10_1 x11_1) (ji41)) = 0
                 ·rw [if_pos c50] at H
                  have c50b0 : ((rd (rd_L1 x10_1 x11_1) (ji41)) == 0) = true := beq_iff_eq.mpr c50
                  have c50b1 : ((rd (rd_L1 x10_1 x11_1) (ji41)) != 0) = false := bne_eq_false_iff_eq.mpr c50
                  clear c50
                  by_cases c51 : x12_1 < ((rd_L1 x10_1 x11_1).length : Int)
                  ·rw [if_pos c51] at H
                   have c51b0 : decide (x12_1 < ((rd_L1 x10_1 x11_1).length : Int)) = true := decide_eq_true c51
                   clear c51
                   obtain ⟨y278, hy278⟩ : ∃ y_ : List Int, y_ = ((rd_L1 x10_1 x11_1).set (x12_1 : Int).toNat (rd (rd_L1 x10_1 (ji44)) x12_1)) := ⟨_, rfl⟩
                   replace H : ((some (x10_1.set (x11_1 : Int).toNat y278 : List (List Int))).bind fun y280 => (if x12_1 < ((rd_L1 y280 (ji44)).length : Int) then (spec_l13Into.l0 kj23 x8_1 (y280.set ((ji44) : Int).toNat ((rd_L1 y280 (ji44)).set (x12_1 : Int).toNat 0)) ji44 x12_1 x261000_1 x261001_1) else (none))) = some (r1, r2, r3) := by first | (rw [hy278]; with_reducible exact H) | (have H2_ := (Option.bind_some _ _).symm.trans H; rw [hy278]; with_reducible exact H2_) | (have H2_ := (Option.bind_some _ _).symm.trans H; with_reducible exact H2_) | with_reducible exact H | (rw [hy278]; exact H) | exact H
                   have Ny278 := Aside0.mk hy278
                   clear hy278
                   obtain ⟨y280, hy280⟩ : ∃ y_ : List (List Int), y_ = (x10_1.set (x11_1 : Int).toNat y278) := ⟨_, rfl⟩
                   replace H : (if x12_1 < ((rd_L1 y280 (ji44)).length : Int) then (spec_l13Into.l0 kj23 x8_1 (y280.set ((ji44) : Int).toNat ((rd_L1 y280 (ji44)).set (x12_1 : Int).toNat 0)) ji44 x12_1 x261000_1 x261001_1) else (none)) = some (r1, r2, r3) := by first | (rw [hy280]; with_reducible exact H) | (have H2_ := (Option.bind_some _ _).symm.trans H; rw [hy280]; with_reducible exact H2_) | (have H2_ := (Option.bind_some _ _).symm.trans H; with_reducible exact H2_) | with_reducible exact H | (rw [hy280]; exact H) | exact H
                   have Ny280 := Aside0.mk hy280
                   clear hy280
                   by_cases c53 : x12_1 < ((rd_L1 y280 (ji44)).length : Int)
                   ·rw [if_pos c53] at H
                    have c53b0 : decide (x12_1 < ((rd_L1 y280 (ji44)).length : Int)) = true := decide_eq_true c53
                    clear c53
                    obtain ⟨y282, hy282⟩ : ∃ y_ : List Int, y_ = ((rd_L1 y280 (ji44)).set (x12_1 : Int).toNat 0) := ⟨_, rfl⟩
                    replace H : (spec_l13Into.l0 kj23 x8_1 (y280.set ((ji44) : Int).toNat y282) ji44 x12_1 x261000_1 x261001_1) = some (r1, r2, r3) := by first | (rw [hy282]; with_reducible exact H) | (have H2_ := (Option.bind_some _ _).symm.trans H; rw [hy282]; with_reducible exact H2_) | (have H2_ := (Option.bind_some _ _).symm.trans H; with_reducible exact H2_) | with_reducible exact H | (rw [hy282]; exact H) | exact H
                    have Ny282 := Aside0.mk hy282
                    clear hy282
                    obtain ⟨y284, hy284⟩ : ∃ y_ : List (List Int), y_ = (y280.set ((ji44) : Int).toNat y282) := ⟨_, rfl⟩
                    replace H : (spec_l13Into.l0 kj23 x8_1 y284 ji44 x12_1 x261000_1 x261001_1) = some (r1, r2, r3) := by first | (rw [hy284]; with_reducible exact H) | (have H2_ := (Option.bind_some _ _).symm.trans H; rw [hy284]; with_reducible exact H2_) | (have H2_ := (Option.bind_some _ _).symm.trans H; with_reducible exact H2_) | with_reducible exact H | (rw [hy284]; exact H) | exact H
                    have Ny284 := Aside0.mk hy284
                    clear hy284
                    have H' := Aside0.mk H
                    clear H
                    obtain ⟨Ao55, co55, eo55⟩ := Kd.S_slice HO_10.out
                    subst eo55
                    have p273 : 0 ≤ (x11_1 : Int) := of_decide_eq_true (by first | (with_reducible assumption) | assumption)
                    have q273 : x11_1 < (x10_1.length : Int) := of_decide_eq_true (by first | (with_reducible assumption) | assumption)
                    obtain ⟨ad273, A273_0, c273_0, e273, hx273_0, hl273_0, hi273_0⟩ := at_L1 (Kd.S_reads' HO_10.out).2.2 x11_1 p273 q273
                    cases e273
                    obtain ⟨ce273, hce273, hMe273, hcc273⟩ := Kd.S_get HO_10.out [] x11_1 p273 (by first | exact q273 | exact of_decide_eq_true (by first | (with_reducible assumption) | assumption) | (have e_ := (Kd.S_reads' HO_10.out).1; omega))
                    obtain ⟨ve273_0, rfl, ge273_0⟩ := hMe273
                    have hv273_0 := hcc273 0 _ rfl
                    rw [Nat.add_zero, show ((Kd.slice 3 (Kd.int .i64))).sz = 1 from rfl, Nat.mul_one] at hv273_0
                    replace hv273_0 := Option.some.inj (hv273_0.symm.trans hx273_0)
                    rw [hv273_0] at ge273_0
                    have HL273_0 := Aside0.mk (show Kd.R (Kd.int .i64) 3 _ _ _ _ (rd_L1 x10_1 x11_1) from ge273_0)
                    clear hv273_0 ge273_0
                    have HX273_0 := Aside0.mk hx273_0
                    clear hcc273 hce273
                    have HR273_0 := Aside0.mk hi273_0
                    have HC273_0 := Aside0.mk hl273_0
                    clear hi273_0 hl273_0
                    replace p273 := eq_true p273
                    replace q273 := eq_true q273
                    have p274 : 0 ≤ ((ji41) : Int) := of_decide_eq_true (by first | (with_reducible assumption) | assumption)
                    have q274 : (ji41) < ((rd_L1 x10_1 x11_1).length : Int) := of_decide_eq_true (by first | (with_reducible assumption) | assumption)
                    obtain ⟨ad274, e274, hx274_0⟩ := Kd.at_int (by repeat (first | (with_reducible exact HR273_0.out) | (with_reducible refine Kd.C_alloc ?_ _) | (with_reducible refine Kd.C_drewN ?_ _) | (with_reducible refine Kd.C_drew ?_) | exact HR273_0.out)) (ji41) p274 q274
                    cases e274
                    replace p274 := eq_true p274
                    replace q274 := eq_true q274
                    have p275 : 0 ≤ ((ji44) : Int) := of_decide_eq_true (by first | (with_reducible assumption) | assumption)
                    have q275 : (ji44) < (x10_1.length : Int) := of_decide_eq_true (by first | (with_reducible assumption) | assumption)
                    obtain ⟨ad275, A275_0, c275_0, e275, hx275_0, hl275_0, hi275_0⟩ := at_L1 (Kd.S_reads' HO_10.out).2.2 (ji44) p275 q275
                    obtain rfl : ad273 = ad275 := (by injection e275)
                    obtain ⟨ce275, hce275, hMe275, hcc275⟩ := Kd.S_get HO_10.out [] (ji44) p275 (by first | exact q275 | exact of_decide_eq_true (by first | (with_reducible assumption) | assumption) | (have e_ := (Kd.S_reads' HO_10.out).1; omega))
                    obtain ⟨ve275_0, rfl, ge275_0⟩ := hMe275
                    have hv275_0 := hcc275 0 _ rfl
                    rw [Nat.add_zero, show ((Kd.slice 3 (Kd.int .i64))).sz = 1 from rfl, Nat.mul_one] at hv275_0
                    replace hv275_0 := Option.some.inj (hv275_0.symm.trans hx275_0)
                    rw [hv275_0] at ge275_0
                    have HL275_0 := Aside0.mk (show Kd.R (Kd.int .i64) 3 _ _ _ _ (rd_L1 x10_1 (ji44)) from ge275_0)
                    clear hv275_0 ge275_0
                    have HX275_0 := Aside0.mk hx275_0
                    clear hcc275 hce275
                    have HR275_0 := Aside0.mk hi275_0
                    have HC275_0 := Aside0.mk hl275_0
                    clear hi275_0 hl275_0
                    replace p275 := eq_true p275
                    replace q275 := eq_true q275
                    have p276 : 0 ≤ (x12_1 : Int) := of_decide_eq_true (by first | (with_reducible assumption) | assumption)
                    have q276 : x12_1 < ((rd_L1 x10_1 (ji44)).length : Int) := of_decide_eq_true (by first | (with_reducible assumption) | assumption)
                    obtain ⟨ad276, e276, hx276_0⟩ := Kd.at_int (by repeat (first | (with_reducible exact HR275_0.out) | (with_reducible refine Kd.C_alloc ?_ _) | (with_reducible refine Kd.C_drewN ?_ _) | (with_reducible refine Kd.C_drew ?_) | exact HR275_0.out)) x12_1 p276 q276
                    cases e276
                    replace p276 := eq_true p276
                    replace q276 := eq_true q276
                    have p277 : 0 ≤ (x11_1 : Int) := of_decide_eq_true (by first | (with_reducible assumption) | assumption)
                    have q277 : x11_1 < (x10_1.length : Int) := of_decide_eq_true (by first | (with_reducible assumption) | assumption)
                    obtain ⟨ad277, A277_0, c277_0, e277, hx277_0, hl277_0, hi277_0⟩ := at_L1 (Kd.S_reads' HO_10.out).2.2 x11_1 p277 q277
                    obtain rfl : ad273 = ad277 := (by injection e277)
                    obtain ⟨ce277, hce277, hMe277, hcc277⟩ := Kd.S_get HO_10.out [] x11_1 p277 (by first | exact q277 | exact of_decide_eq_true (by first | (with_reducible assumption) | assumption) | (have e_ := (Kd.S_reads' HO_10.out).1; omega))
                    obtain ⟨ve277_0, rfl, ge277_0⟩ := hMe277
                    have hv277_0 := hcc277 0 _ rfl
                    rw [Nat.add_zero, show ((Kd.slice 3 (Kd.int .i64))).sz = 1 from rfl, Nat.mul_one] at hv277_0
                    replace hv277_0 := Option.some.inj (hv277_0.symm.trans hx277_0)
                    rw [hv277_0] at ge277_0
                    have HL277_0 := Aside0.mk (show Kd.R (Kd.int .i64) 3 _ _ _ _ (rd_L1 x10_1 x11_1) from ge277_0)
                    clear hv277_0 ge277_0
                    have HX277_0 := Aside0.mk hx277_0
                    clear hcc277 hce277
                    have HR277_0 := Aside0.mk hi277_0
                    have HC277_0 := Aside0.mk hl277_0
                    clear hi277_0 hl277_0
                    replace p277 := eq_true p277
                    replace q277 := eq_true q277
                    have ea_ := Option.some.inj (hx273_0.symm.trans hx277_0)
                    injection ea_ with ea_ en_ ec_
                    subst ea_
                    subst ec_
                    clear en_
                    have p52 : 0 ≤ (x12_1 : Int) := of_decide_eq_true (by first | (with_reducible assumption) | assumption)
                    have q52 : (x12_1 : Int) < (((rd_L1 x10_1 x11_1).length : Int) : Int) := of_decide_eq_true (by first | (with_reducible assumption) | assumption)
                    obtain ⟨go52, co52, eo52, gb52, gl52, cl52, HG52⟩ := Kd.R_form HL277_0.out (by omega)
                    (first | cases eo52 | (injection eo52 with ea_ en_ ec_; (first | subst ea_ | (injection ea_ with ea_; subst ea_)); subst ec_; clear en_))
                    have GB52 := Aside0.mk gb52
                    have GG52 := Aside0.mk HG52
                    clear gb52 gl52 HG52
                    (first | simp only [add_plain] at hx274_0 | skip)
                    obtain ⟨hx52_0, hf52_0⟩ := Kd.R_celln 0 HL277_0.out (x12_1 : Int) p52 q52
                    replace p52 := eq_true p52
                    replace q52 := eq_true q52
                    have hq56 : (x11_1 : Int) < (x10_1.length : Int) := (by have h_ : (x11_1 : Int) < ((x10_1.length : Int) : Int) := of_decide_eq_true (by first | (with_reducible assumption) | assumption); first | exact h_ | (have e_ := (Kd.S_reads' HO_10.out).1; omega) | simpa only [List.length_set, List.length_set] using h_)
                    obtain ⟨oki56, ce56, hcl56, hM56, hcc56, hok56, hbk56⟩ := Kd.S_borrow HO_10.out [] (x11_1 : Int) (of_decide_eq_true (by first | (with_reducible assumption) | assumption)) hq56
                    obtain ⟨ve56_0, rfl, ge56_0⟩ := hM56
                    have hv56 := hcc56 0 _ rfl
                    rw [Nat.add_zero, show ((Kd.slice 3 (Kd.int .i64))).sz = 1 from rfl, Nat.mul_one] at hv56
                    replace hv56 := Option.some.inj (hv56.symm.trans HX277_0.out)
                    subst hv56
                    clear hcc56 hcl56
                    replace ge56_0 := (show Kd.R (Kd.int .i64) 3 _ _ _ _ (rd_L1 x10_1 x11_1) from ge56_0)
                    have HP56 := Kd.R_putg ge56_0 (x12_1 : Int) (rd (rd_L1 x10_1 (ji44)) x12_1)
                    go_wp2_with (first | ((with_reducible refine gate_store (t := 3) (p := 91) rfl ?_); refine store_event (t := 3) (p := 91) (v := ?vo_w57) (w1 := (wc.setCell ⟨go52, (x12_1 : Int).toNat, none⟩ (.int .i64 (rd (rd_L1 x10_1 (ji44)) x12_1)))) ?hg ?ho ?hn ?hr ?_; (case ho => rfl); (case hg => rfl); (case hn => rfl); (case hr => first | (go_simp; done) | (go_simp; rfl)); intro w57 hw; have hg : wc.grownBy w57 (some go52) := (by rw [hw]; exact HP56.2); have hz_ : Kd.R (Kd.int .i64) 3 w57 w.heap.size oki56 (.slice (some ⟨go52, 0, none⟩) (rd_L1 x10_1 x11_1).length c273_0) y278 := (by rw [hw, Ny278.out]; exact HP56.1); have hp_ : Kd.S (Kd.slice 3 (Kd.int .i64)) 22 w57 w.heap.size (fun k_ => some k_ ≠ (v263 : Value).ownBlock ∧ some k_ ≠ (u261000 : Value).ownBlock ∧ some k_ ≠ (u261001 : Value).ownBlock) (.slice (some ad273) x10_1.length co55) y280 := (by rw [Ny280.out]; exact hbk56 hg (fun k_ e_ => by injection e_ with e_; subst e_; exact ge56_0.1 _ rfl) (Kd.M_row hz_)); have hm_ := Kd.R_mono hz_ hok56; clear HP56 hbk56; have n0_ := Aside0.mk (Kd.R_grown1 (by (with_reducible repeat (first | apply Kd.R_alloc | apply Kd.R_drewN | apply Kd.R_drew)); exact HO_8.out) rfl hg ((HL277_0.out.1 _ rfl).1.1)); have n1_ := Aside0.mk (hp_); have n2_ := Aside0.mk (Kd.R_grown1 (by (with_reducible repeat (first | apply Kd.R_alloc | apply Kd.R_drewN | apply Kd.R_drew)); exact HO_261000.out) rfl hg ((HL277_0.out.1 _ rfl).1.2.1)); have n3_ := Aside0.mk (Kd.R_grown1 (by (with_reducible repeat (first | apply Kd.R_alloc | apply Kd.R_drewN | apply Kd.R_drew)); exact HO_261001.out) rfl hg ((HL277_0.out.1 _ rfl).1.2.2)); have n4_ := Aside0.mk (blk_grown (g := gb251) (o := .cells #[.slice (some ad268) l0_0.length c0_0, .slice A0_1 l0_1.length c0_1] 28 (0, 0)) (by (with_reducible repeat (first | refine blk_drewN ?_ _ | refine blk_drew ?_ | refine blk_alloc ?_ _)); exact BK251.out) hg (Kd.R_ne HL277_0.out BK251.out (by decide))); have n5_ := Aside0.mk (blk_grown (g := gb252) (o := .cells #[.slice none 0 0, .slice none 0 0] 28 (0, 0)) (by (with_reducible repeat (first | refine blk_drewN ?_ _ | refine blk_drew ?_ | refine blk_alloc ?_ _)); exact BK252.out) hg (Kd.R_ne HL277_0.out BK252.out (by decide))); have n6_ := Aside0.mk (blk_grown (g := gb260) (o := .cells #[u261000, u261001] 61 (0, 0)) (by (with_reducible repeat (first | refine blk_drewN ?_ _ | refine blk_drew ?_ | refine blk_alloc ?_ _)); exact BK260.out) hg (Kd.R_ne HL277_0.out BK260.out (by decide))); have n7_ := Aside0.mk ((by rw [hw]; exact below_set (HB.out) GB52.out : Below w.heap.size w w57)); have n8_ := Aside0.mk (hm_); have n9_ := Aside0.mk ((Kd.R_reads' hm_).2.1); clear HO_8; clear HO_10; clear HO_261000; clear HO_261001; clear BK251; clear BK252; clear BK260; clear HB; clear HL273_0; clear HL275_0; clear HL277_0; have HO_8 := n0_; have HO_10 := n1_; have HO_261000 := n2_; have HO_261001 := n3_; have BK251 := n4_; have BK252 := n5_; have BK260 := n6_; have HB := n7_; have HL319 := n8_; have HC279 := n9_; clear n0_ n1_ n2_ n3_ n4_ n5_ n6_ n7_ n8_ n9_; clear hg hw hp_ hz_ hm_ hok56; have p281 : 0 ≤ ((ji44) : Int) := of_decide_eq_true (by first | (with_reducible assumption) | assumption); have q281 : (ji44) < (y280.length : Int) := (by have h_ : ((ji44) : Int) < ((x10_1.length : Int) : Int) := of_decide_eq_true (by first | (with_reducible assumption) | assumption); first | (have e_ := (Kd.S_reads' HO_10.out).1; omega) | simpa only [Ny280.out, List.length_set] using h_); have ql281 : (((ji44) : Int) < ((x10_1.length : Int) : Int)) = True := eq_true (of_decide_eq_true (by first | (with_reducible assumption) | assumption)); obtain ⟨ad281, A281_0, c281_0, e281, hx281_0, hl281_0, hi281_0⟩ := at_L1 (Kd.S_reads' HO_10.out).2.2 (ji44) p281 q281; obtain rfl : ad273 = ad281 := (by injection e281); obtain ⟨ce281, hce281, hMe281, hcc281⟩ := Kd.S_get HO_10.out [] (ji44) p281 (by first | exact q281 | exact of_decide_eq_true (by first | (with_reducible assumption) | assumption) | (have e_ := (Kd.S_reads' HO_10.out).1; omega)); obtain ⟨ve281_0, rfl, ge281_0⟩ := hMe281; have hv281_0 := hcc281 0 _ rfl; rw [Nat.add_zero, show ((Kd.slice 3 (Kd.int .i64))).sz = 1 from rfl, Nat.mul_one] at hv281_0; replace hv281_0 := Option.some.inj (hv281_0.symm.trans hx281_0); rw [hv281_0] at ge281_0; have HL281_0 := Aside0.mk (show Kd.R (Kd.int .i64) 3 _ _ _ _ (rd_L1 y280 (ji44)) from ge281_0); clear hv281_0 ge281_0; have HX281_0 := Aside0.mk hx281_0; clear hcc281 hce281; have HR281_0 := Aside0.mk hi281_0; have HC281_0 := Aside0.mk hl281_0; clear hi281_0 hl281_0; replace p281 := eq_true p281; replace q281 := eq_true q281; have p54 : 0 ≤ (x12_1 : Int) := of_decide_eq_true (by first | (with_reducible assumption) | assumption); have q54 : (x12_1 : Int) < (((rd_L1 y280 (ji44)).length : Int) : Int) := of_decide_eq_true (by first | (with_reducible assumption) | assumption); obtain ⟨go54, co54, eo54, gb54, gl54, cl54, HG54⟩ := Kd.R_form HL281_0.out (by omega); (first | cases eo54 | (injection eo54 with ea_ en_ ec_; (first | subst ea_ | (injection ea_ with ea_; subst ea_)); subst ec_; clear en_)); have GB54 := Aside0.mk gb54; have GG54 := Aside0.mk HG54; clear gb54 gl54 HG54; obtain ⟨hx54_0, hf54_0⟩ := Kd.R_celln 0 HL281_0.out (x12_1 : Int) p54 q54; replace p54 := eq_true p54; replace q54 := eq_true q54; have hq58 : ((ji44) : Int) < (y280.length : Int) := (by have h_ : ((ji44) : Int) < ((x10_1.length : Int) : Int) := of_decide_eq_true (by first | (with_reducible assumption) | assumption); first | exact h_ | (have e_ := (Kd.S_reads' HO_10.out).1; omega) | simpa only [Ny280.out, List.length_set] using h_); obtain ⟨oki58, ce58, hcl58, hM58, hcc58, hok58, hbk58⟩ := Kd.S_borrow HO_10.out [] ((ji44) : Int) (of_decide_eq_true (by first | (with_reducible assumption) | assumption)) (by first | exact hq58 | (have l_ := (Kd.S_reads' HO_10.out).1; omega)); obtain ⟨ve58_0, rfl, ge58_0⟩ := hM58; have hv58 := hcc58 0 _ rfl; rw [Nat.add_zero, show ((Kd.slice 3 (Kd.int .i64))).sz = 1 from rfl, Nat.mul_one] at hv58; replace hv58 := Option.some.inj (hv58.symm.trans HX281_0.out); subst hv58; clear hcc58 hcl58; replace ge58_0 := (show Kd.R (Kd.int .i64) 3 _ _ _ _ (rd_L1 y280 (ji44)) from ge58_0); have HP58 := Kd.R_putg ge58_0 (x12_1 : Int) 0) | ((with_reducible refine gate_store (t := 3) (p := 108) rfl ?_); refine store_event (t := 3) (p := 108) (v := ?vo_w59) (w1 := (w57.setCell ⟨go54, (x12_1 : Int).toNat, none⟩ (.int .i64 0))) ?hg ?ho ?hn ?hr ?_; (case ho => rfl); (case hg => rfl); (case hn => rfl); (case hr => first | (go_simp; done) | (go_simp; rfl)); intro w59 hw; have hg : w57.grownBy w59 (some go54) := (by rw [hw]; exact HP58.2); have hz_ : Kd.R (Kd.int .i64) 3 w59 w.heap.size oki58 (.slice (some ⟨go54, 0, none⟩) (rd_L1 y280 (ji44)).length c281_0) y282 := (by rw [hw, Ny282.out]; exact HP58.1); have hp_ : Kd.S (Kd.slice 3 (Kd.int .i64)) 22 w59 w.heap.size (fun k_ => some k_ ≠ (v263 : Value).ownBlock ∧ some k_ ≠ (u261000 : Value).ownBlock ∧ some k_ ≠ (u261001 : Value).ownBlock) (.slice (some ad273) x10_1.length co55) y284 := (by rw [Ny284.out]; exact hbk58 hg (fun k_ e_ => by injection e_ with e_; subst e_; exact ge58_0.1 _ rfl) (Kd.M_row hz_)); have hm_ := Kd.R_mono hz_ hok58; clear HP58 hbk58; have n0_ := Aside0.mk (Kd.R_grown1 (by (with_reducible repeat (first | apply Kd.R_alloc | apply Kd.R_drewN | apply Kd.R_drew)); exact HO_8.out) rfl hg ((HL281_0.out.1 _ rfl).1.1)); have n1_ := Aside0.mk (hp_); have n2_ := Aside0.mk (Kd.R_grown1 (by (with_reducible repeat (first | apply Kd.R_alloc | apply Kd.R_drewN | apply Kd.R_drew)); exact HO_261000.out) rfl hg ((HL281_0.out.1 _ rfl).1.2.1)); have n3_ := Aside0.mk (Kd.R_grown1 (by (with_reducible repeat (first | apply Kd.R_alloc | apply Kd.R_drewN | apply Kd.R_drew)); exact HO_261001.out) rfl hg ((HL281_0.out.1 _ rfl).1.2.2)); have n4_ := Aside0.mk (blk_grown (g := gb251) (o := .cells #[.slice (some ad268) l0_0.length c0_0, .slice A0_1 l0_1.length c0_1] 28 (0, 0)) (by (with_reducible repeat (first | refine blk_drewN ?_ _ | refine blk_drew ?_ | refine blk_alloc ?_ _)); exact BK251.out) hg (Kd.R_ne HL281_0.out BK251.out (by decide))); have n5_ := Aside0.mk (blk_grown (g := gb252) (o := .cells #[.slice none 0 0, .slice none 0 0] 28 (0, 0)) (by (with_reducible repeat (first | refine blk_drewN ?_ _ | refine blk_drew ?_ | refine blk_alloc ?_ _)); exact BK252.out) hg (Kd.R_ne HL281_0.out BK252.out (by decide))); have n6_ := Aside0.mk (blk_grown (g := gb260) (o := .cells #[u261000, u261001] 61 (0, 0)) (by (with_reducible repeat (first | refine blk_drewN ?_ _ | refine blk_drew ?_ | refine blk_alloc ?_ _)); exact BK260.out) hg (Kd.R_ne HL281_0.out BK260.out (by decide))); have n7_ := Aside0.mk ((by rw [hw]; exact below_set (HB.out) GB54.out : Below w.heap.size w w59)); have n8_ := Aside0.mk (hm_); have n9_ := Aside0.mk ((Kd.R_reads' hm_).2.1); clear HO_8; clear HO_10; clear HO_261000; clear HO_261001; clear BK251; clear BK252; clear BK260; clear HB; clear HL319; clear HL281_0; have HO_8 := n0_; have HO_10 := n1_; have HO_261000 := n2_; have HO_261001 := n3_; have BK251 := n4_; have BK252 := n5_; have BK260 := n6_; have HB := n7_; have HL320 := n8_; have HC283 := n9_; clear n0_ n1_ n2_ n3_ n4_ n5_ n6_ n7_ n8_ n9_; clear hg hw hp_ hz_ hm_ hok58))
                    go_roundg kj23
                    case measure => have := HK1.out; have := HJ23.out; omega
                    case rel => exact ⟨(x8_1), (y284), (ji44), (x12_1), (x261000_1), (x261001_1), (u261000), (u261001), (by first | rfl | (simp; done) | (simp only [← hji44] <;> (first | rfl | simp)) | (simp [*]; done)), (by first | rfl | (simp; done) | (simp [*]; done)), H', ⟨by have := HK1.out; have := HJ23.out; omega⟩, ⟨by (with_reducible repeat (first | apply Kd.R_alloc | apply Kd.R_drewN | apply Kd.R_drew)); exact HO_8.out⟩, ⟨by (with_reducible repeat (first | apply Kd.S_alloc | apply Kd.S_drewN | apply Kd.S_drew)); exact HO_10.out⟩, ⟨by (with_reducible repeat (first | apply Kd.R_alloc | apply Kd.R_drewN | apply Kd.R_drew)); exact HO_261000.out⟩, ⟨by (with_reducible repeat (first | apply Kd.R_alloc | apply Kd.R_drewN | apply Kd.R_drew)); exact HO_261001.out⟩, ⟨by (with_reducible repeat (first | refine blk_drewN ?_ _ | refine blk_drew ?_ | refine blk_alloc ?_ _)); exact BK251.out⟩, ⟨by (with_reducible repeat (first | refine blk_drewN ?_ _ | refine blk_drew ?_ | refine blk_alloc ?_ _)); exact BK252.out⟩, ⟨by (with_reducible repeat (first | refine blk_drewN ?_ _ | refine blk_drew ?_ | refine blk_alloc ?_ _)); exact BK260.out⟩, ⟨by repeat (first | (with_reducible first | exact HB.out | apply below_alloc | apply pw_below_drewN | apply below_drew1 | refine below_set ?_ GE251.out | refine below_set ?_ GE252.out | refine below_set ?_ GE260.out) | exact HB.out)⟩⟩
                   ·rw [if_neg c53] at H
                    exact absurd H (by simp)
                  ·rw [if_neg c51] at H
                   exact absurd H (by simp)
                 ·rw [if_neg c50] at H
                  have c50b0 : ((rd (rd_L1 x10_1 x11_1) (ji41)) == 0) = false := beq_eq_false_iff_ne.mpr c50
                  have c50b1 : ((rd (rd_L1 x10_1 x11_1) (ji41)) != 0) = true := bne_iff_ne.mpr c50
                  by_cases c60 : (rd (rd_L1 x10_1 (ji44)) x12_1) ≤ (rd (rd_L1 x10_1 x11_1) (ji41))
                  ·rw [if_pos c60] at H
                   have c60b0 : decide ((rd (rd_L1 x10_1 (ji44)) x12_1) ≤ (rd (rd_L1 x10_1 x11_1) (ji41))) = true := decide_eq_true c60
                   clear c60
                   by_cases c61 : x12_1 < ((rd_L1 x10_1 x11_1).length : Int)
                   ·rw [if_pos c61] at H
                    have c61b0 : decide (x12_1 < ((rd_L1 x10_1 x11_1).length : Int)) = true := decide_eq_true c61
                    clear c61
                    obtain ⟨y286, hy286⟩ : ∃ y_ : List Int, y_ = ((rd_L1 x10_1 x11_1).set (x12_1 : Int).toNat (rd (rd_L1 x10_1 (ji44)) x12_1)) := ⟨_, rfl⟩
                    replace H : ((some (x10_1.set (x11_1 : Int).toNat y286 : List (List Int))).bind fun y288 => (if x12_1 < ((rd_L1 y288 (ji44)).length : Int) then (spec_l13Into.l0 kj23 x8_1 (y288.set ((ji44) : Int).toNat ((rd_L1 y288 (ji44)).set (x12_1 : Int).toNat 0)) ji44 x12_1 x261000_1 x261001_1) else (none))) = some (r1, r2, r3) := by first | (rw [hy286]; with_reducible exact H) | (have H2_ := (Option.bind_some _ _).symm.trans H; rw [hy286]; with_reducible exact H2_) | (have H2_ := (Option.bind_some _ _).symm.trans H; with_reducible exact H2_) | with_reducible exact H | (rw [hy286]; exact H) | exact H
                    have Ny286 := Aside0.mk hy286
                    clear hy286
                    obtain ⟨y288, hy288⟩ : ∃ y_ : List (List Int), y_ = (x10_1.set (x11_1 : Int).toNat y286) := ⟨_, rfl⟩
                    replace H : (if x12_1 < ((rd_L1 y288 (ji44)).length : Int) then (spec_l13Into.l0 kj23 x8_1 (y288.set ((ji44) : Int).toNat ((rd_L1 y288 (ji44)).set (x12_1 : Int).toNat 0)) ji44 x12_1 x261000_1 x261001_1) else (none)) = some (r1, r2, r3) := by first | (rw [hy288]; with_reducible exact H) | (have H2_ := (Option.bind_some _ _).symm.trans H; rw [hy288]; with_reducible exact H2_) | (have H2_ := (Option.bind_some _ _).symm.trans H; with_reducible exact H2_) | with_reducible exact H | (rw [hy288]; exact H) | exact H
                    have Ny288 := Aside0.mk hy288
                    clear hy288
                    by_cases c63 : x12_1 < ((rd_L1 y288 (ji44)).length : Int)
                    ·rw [if_pos c63] at H
                     have c63b0 : decide (x12_1 < ((rd_L1 y288 (ji44)).length : Int)) = true := decide_eq_true c63
                     clear c63
                     obtain ⟨y290, hy290⟩ : ∃ y_ : List Int, y_ = ((rd_L1 y288 (ji44)).set (x12_1 : Int).toNat 0) := ⟨_, rfl⟩
                     replace H : (spec_l13Into.l0 kj23 x8_1 (y288.set ((ji44) : Int).toNat y290) ji44 x12_1 x261000_1 x261001_1) = some (r1, r2, r3) := by first | (rw [hy290]; with_reducible exact H) | (have H2_ := (Option.bind_some _ _).symm.trans H; rw [hy290]; with_reducible exact H2_) | (have H2_ := (Option.bind_some _ _).symm.trans H; with_reducible exact H2_) | with_reducible exact H | (rw [hy290]; exact H) | exact H
                     have Ny290 := Aside0.mk hy290
                     clear hy290
                     obtain ⟨y292, hy292⟩ : ∃ y_ : List (List Int), y_ = (y288.set ((ji44) : Int).toNat y290) := ⟨_, rfl⟩
                     replace H : (spec_l13Into.l0 kj23 x8_1 y292 ji44 x12_1 x261000_1 x261001_1) = some (r1, r2, r3) := by first | (rw [hy292]; with_reducible exact H) | (have H2_ := (Option.bind_some _ _).symm.trans H; rw [hy292]; with_reducible exact H2_) | (have H2_ := (Option.bind_some _ _).symm.trans H; with_reducible exact H2_) | with_reducible exact H | (rw [hy292]; exact H) | exact H
                     have Ny292 := Aside0.mk hy292
                     clear hy292
                     have H' := Aside0.mk H
                     clear H
                     obtain ⟨Ao65, co65, eo65⟩ := Kd.S_slice HO_10.out
                     subst eo65
                     have p273 : 0 ≤ (x11_1 : Int) := of_decide_eq_true (by first | (with_reducible assumption) | assumption)
                     have q273 : x11_1 < (x10_1.length : Int) := of_decide_eq_true (by first | (with_reducible assumption) | assumption)
                     obtain ⟨ad273, A273_0, c273_0, e273, hx273_0, hl273_0, hi273_0⟩ := at_L1 (Kd.S_reads' HO_10.out).2.2 x11_1 p273 q273
                     cases e273
                     obtain ⟨ce273, hce273, hMe273, hcc273⟩ := Kd.S_get HO_10.out [] x11_1 p273 (by first | exact q273 | exact of_decide_eq_true (by first | (with_reducible assumption) | assumption) | (have e_ := (Kd.S_reads' HO_10.out).1; omega))
                     obtain ⟨ve273_0, rfl, ge273_0⟩ := hMe273
                     have hv273_0 := hcc273 0 _ rfl
                     rw [Nat.add_zero, show ((Kd.slice 3 (Kd.int .i64))).sz = 1 from rfl, Nat.mul_one] at hv273_0
                     replace hv273_0 := Option.some.inj (hv273_0.symm.trans hx273_0)
                     rw [hv273_0] at ge273_0
                     have HL273_0 := Aside0.mk (show Kd.R (Kd.int .i64) 3 _ _ _ _ (rd_L1 x10_1 x11_1) from ge273_0)
                     clear hv273_0 ge273_0
                     have HX273_0 := Aside0.mk hx273_0
                     clear hcc273 hce273
                     have HR273_0 := Aside0.mk hi273_0
                     have HC273_0 := Aside0.mk hl273_0
                     clear hi273_0 hl273_0
                     replace p273 := eq_true p273
                     replace q273 := eq_true q273
                     have p274 : 0 ≤ ((ji41) : Int) := of_decide_eq_true (by first | (with_reducible assumption) | assumption)
                     have q274 : (ji41) < ((rd_L1 x10_1 x11_1).length : Int) := of_decide_eq_true (by first | (with_reducible assumption) | assumption)
                     obtain ⟨ad274, e274, hx274_0⟩ := Kd.at_int (by repeat (first | (with_reducible exact HR273_0.out) | (with_reducible refine Kd.C_alloc ?_ _) | (with_reducible refine Kd.C_drewN ?_ _) | (with_reducible refine Kd.C_drew ?_) | exact HR273_0.out)) (ji41) p274 q274
                     cases e274
                     replace p274 := eq_true p274
                     replace q274 := eq_true q274
                     have p275 : 0 ≤ ((ji44) : Int) := of_decide_eq_true (by first | (with_reducible assumption) | assumption)
                     have q275 : (ji44) < (x10_1.length : Int) := of_decide_eq_true (by first | (with_reducible assumption) | assumption)
                     obtain ⟨ad275, A275_0, c275_0, e275, hx275_0, hl275_0, hi275_0⟩ := at_L1 (Kd.S_reads' HO_10.out).2.2 (ji44) p275 q275
                     obtain rfl : ad273 = ad275 := (by injection e275)
                     obtain ⟨ce275, hce275, hMe275, hcc275⟩ := Kd.S_get HO_10.out [] (ji44) p275 (by first | exact q275 | exact of_decide_eq_true (by first | (with_reducible assumption) | assumption) | (have e_ := (Kd.S_reads' HO_10.out).1; omega))
                     obtain ⟨ve275_0, rfl, ge275_0⟩ := hMe275
                     have hv275_0 := hcc275 0 _ rfl
                     rw [Nat.add_zero, show ((Kd.slice 3 (Kd.int .i64))).sz = 1 from rfl, Nat.mul_one] at hv275_0
                     replace hv275_0 := Option.some.inj (hv275_0.symm.trans hx275_0)
                     rw [hv275_0] at ge275_0
                     have HL275_0 := Aside0.mk (show Kd.R (Kd.int .i64) 3 _ _ _ _ (rd_L1 x10_1 (ji44)) from ge275_0)
                     clear hv275_0 ge275_0
                     have HX275_0 := Aside0.mk hx275_0
                     clear hcc275 hce275
                     have HR275_0 := Aside0.mk hi275_0
                     have HC275_0 := Aside0.mk hl275_0
                     clear hi275_0 hl275_0
                     replace p275 := eq_true p275
                     replace q275 := eq_true q275
                     have p276 : 0 ≤ (x12_1 : Int) := of_decide_eq_true (by first | (with_reducible assumption) | assumption)
                     have q276 : x12_1 < ((rd_L1 x10_1 (ji44)).length : Int) := of_decide_eq_true (by first | (with_reducible assumption) | assumption)
                     obtain ⟨ad276, e276, hx276_0⟩ := Kd.at_int (by repeat (first | (with_reducible exact HR275_0.out) | (with_reducible refine Kd.C_alloc ?_ _) | (with_reducible refine Kd.C_drewN ?_ _) | (with_reducible refine Kd.C_drew ?_) | exact HR275_0.out)) x12_1 p276 q276
                     cases e276
                     replace p276 := eq_true p276
                     replace q276 := eq_true q276
                     have p285 : 0 ≤ (x11_1 : Int) := of_decide_eq_true (by first | (with_reducible assumption) | assumption)
                     have q285 : x11_1 < (x10_1.length : Int) := of_decide_eq_true (by first | (with_reducible assumption) | assumption)
                     obtain ⟨ad285, A285_0, c285_0, e285, hx285_0, hl285_0, hi285_0⟩ := at_L1 (Kd.S_reads' HO_10.out).2.2 x11_1 p285 q285
                     obtain rfl : ad273 = ad285 := (by injection e285)
                     obtain ⟨ce285, hce285, hMe285, hcc285⟩ := Kd.S_get HO_10.out [] x11_1 p285 (by first | exact q285 | exact of_decide_eq_true (by first | (with_reducible assumption) | assumption) | (have e_ := (Kd.S_reads' HO_10.out).1; omega))
                     obtain ⟨ve285_0, rfl, ge285_0⟩ := hMe285
                     have hv285_0 := hcc285 0 _ rfl
                     rw [Nat.add_zero, show ((Kd.slice 3 (Kd.int .i64))).sz = 1 from rfl, Nat.mul_one] at hv285_0
                     replace hv285_0 := Option.some.inj (hv285_0.symm.trans hx285_0)
                     rw [hv285_0] at ge285_0
                     have HL285_0 := Aside0.mk (show Kd.R (Kd.int .i64) 3 _ _ _ _ (rd_L1 x10_1 x11_1) from ge285_0)
                     clear hv285_0 ge285_0
                     have HX285_0 := Aside0.mk hx285_0
                     clear hcc285 hce285
                     have HR285_0 := Aside0.mk hi285_0
                     have HC285_0 := Aside0.mk hl285_0
                     clear hi285_0 hl285_0
                     replace p285 := eq_true p285
                     replace q285 := eq_true q285
                     have ea_ := Option.some.inj (hx273_0.symm.trans hx285_0)
                     injection ea_ with ea_ en_ ec_
                     subst ea_
                     subst ec_
                     clear en_
                     have p62 : 0 ≤ (x12_1 : Int) := of_decide_eq_true (by first | (with_reducible assumption) | assumption)
                     have q62 : (x12_1 : Int) < (((rd_L1 x10_1 x11_1).length : Int) : Int) := of_decide_eq_true (by first | (with_reducible assumption) | assumption)
                     obtain ⟨go62, co62, eo62, gb62, gl62, cl62, HG62⟩ := Kd.R_form HL285_0.out (by omega)
                     (first | cases eo62 | (injection eo62 with ea_ en_ ec_; (first | subst ea_ | (injection ea_ with ea_; subst ea_)); subst ec_; clear en_))
                     have GB62 := Aside0.mk gb62
                     have GG62 := Aside0.mk HG62
                     clear gb62 gl62 HG62
                     (first | simp only [add_plain] at hx274_0 | skip)
                     obtain ⟨hx62_0, hf62_0⟩ := Kd.R_celln 0 HL285_0.out (x12_1 : Int) p62 q62
                     replace p62 := eq_true p62
                     replace q62 := eq_true q62
                     have hq66 : (x11_1 : Int) < (x10_1.length : Int) := (by have h_ : (x11_1 : Int) < ((x10_1.length : Int) : Int) := of_decide_eq_true (by first | (with_reducible assumption) | assumption); first | exact h_ | (have e_ := (Kd.S_reads' HO_10.out).1; omega) | simpa only [List.length_set, List.length_set] using h_)
                     obtain ⟨oki66, ce66, hcl66, hM66, hcc66, hok66, hbk66⟩ := Kd.S_borrow HO_10.out [] (x11_1 : Int) (of_decide_eq_true (by first | (with_reducible assumption) | assumption)) hq66
                     obtain ⟨ve66_0, rfl, ge66_0⟩ := hM66
                     have hv66 := hcc66 0 _ rfl
                     rw [Nat.add_zero, show ((Kd.slice 3 (Kd.int .i64))).sz = 1 from rfl, Nat.mul_one] at hv66
                     replace hv66 := Option.some.inj (hv66.symm.trans HX285_0.out)
                     subst hv66
                     clear hcc66 hcl66
                     replace ge66_0 := (show Kd.R (Kd.int .i64) 3 _ _ _ _ (rd_L1 x10_1 x11_1) from ge66_0)
                     have HP66 := Kd.R_putg ge66_0 (x12_1 : Int) (rd (rd_L1 x10_1 (ji44)) x12_1)
                     go_wp2_with (first | ((with_reducible refine gate_store (t := 3) (p := 91) rfl ?_); refine store_event (t := 3) (p := 91) (v := ?vo_w67) (w1 := (wc.setCell ⟨go62, (x12_1 : Int).toNat, none⟩ (.int .i64 (rd (rd_L1 x10_1 (ji44)) x12_1)))) ?hg ?ho ?hn ?hr ?_; (case ho => rfl); (case hg => rfl); (case hn => rfl); (case hr => first | (go_simp; done) | (go_simp; rfl)); intro w67 hw; have hg : wc.grownBy w67 (some go62) := (by rw [hw]; exact HP66.2); have hz_ : Kd.R (Kd.int .i64) 3 w67 w.heap.size oki66 (.slice (some ⟨go62, 0, none⟩) (rd_L1 x10_1 x11_1).length c273_0) y286 := (by rw [hw, Ny286.out]; exact HP66.1); have hp_ : Kd.S (Kd.slice 3 (Kd.int .i64)) 22 w67 w.heap.size (fun k_ => some k_ ≠ (v263 : Value).ownBlock ∧ some k_ ≠ (u261000 : Value).ownBlock ∧ some k_ ≠ (u261001 : Value).ownBlock) (.slice (some ad273) x10_1.length co65) y288 := (by rw [Ny288.out]; exact hbk66 hg (fun k_ e_ => by injection e_ with e_; subst e_; exact ge66_0.1 _ rfl) (Kd.M_row hz_)); have hm_ := Kd.R_mono hz_ hok66; clear HP66 hbk66; have n0_ := Aside0.mk (Kd.R_grown1 (by (with_reducible repeat (first | apply Kd.R_alloc | apply Kd.R_drewN | apply Kd.R_drew)); exact HO_8.out) rfl hg ((HL285_0.out.1 _ rfl).1.1)); have n1_ := Aside0.mk (hp_); have n2_ := Aside0.mk (Kd.R_grown1 (by (with_reducible repeat (first | apply Kd.R_alloc | apply Kd.R_drewN | apply Kd.R_drew)); exact HO_261000.out) rfl hg ((HL285_0.out.1 _ rfl).1.2.1)); have n3_ := Aside0.mk (Kd.R_grown1 (by (with_reducible repeat (first | apply Kd.R_alloc | apply Kd.R_drewN | apply Kd.R_drew)); exact HO_261001.out) rfl hg ((HL285_0.out.1 _ rfl).1.2.2)); have n4_ := Aside0.mk (blk_grown (g := gb251) (o := .cells #[.slice (some ad268) l0_0.length c0_0, .slice A0_1 l0_1.length c0_1] 28 (0, 0)) (by (with_reducible repeat (first | refine blk_drewN ?_ _ | refine blk_drew ?_ | refine blk_alloc ?_ _)); exact BK251.out) hg (Kd.R_ne HL285_0.out BK251.out (by decide))); have n5_ := Aside0.mk (blk_grown (g := gb252) (o := .cells #[.slice none 0 0, .slice none 0 0] 28 (0, 0)) (by (with_reducible repeat (first | refine blk_drewN ?_ _ | refine blk_drew ?_ | refine blk_alloc ?_ _)); exact BK252.out) hg (Kd.R_ne HL285_0.out BK252.out (by decide))); have n6_ := Aside0.mk (blk_grown (g := gb260) (o := .cells #[u261000, u261001] 61 (0, 0)) (by (with_reducible repeat (first | refine blk_drewN ?_ _ | refine blk_drew ?_ | refine blk_alloc ?_ _)); exact BK260.out) hg (Kd.R_ne HL285_0.out BK260.out (by decide))); have n7_ := Aside0.mk ((by rw [hw]; exact below_set (HB.out) GB62.out : Below w.heap.size w w67)); have n8_ := Aside0.mk (hm_); have n9_ := Aside0.mk ((Kd.R_reads' hm_).2.1); clear HO_8; clear HO_10; clear HO_261000; clear HO_261001; clear BK251; clear BK252; clear BK260; clear HB; clear HL273_0; clear HL275_0; clear HL285_0; have HO_8 := n0_; have HO_10 := n1_; have HO_261000 := n2_; have HO_261001 := n3_; have BK251 := n4_; have BK252 := n5_; have BK260 := n6_; have HB := n7_; have HL321 := n8_; have HC287 := n9_; clear n0_ n1_ n2_ n3_ n4_ n5_ n6_ n7_ n8_ n9_; clear hg hw hp_ hz_ hm_ hok66; have p289 : 0 ≤ ((ji44) : Int) := of_decide_eq_true (by first | (with_reducible assumption) | assumption); have q289 : (ji44) < (y288.length : Int) := (by have h_ : ((ji44) : Int) < ((x10_1.length : Int) : Int) := of_decide_eq_true (by first | (with_reducible assumption) | assumption); first | (have e_ := (Kd.S_reads' HO_10.out).1; omega) | simpa only [Ny288.out, List.length_set] using h_); have ql289 : (((ji44) : Int) < ((x10_1.length : Int) : Int)) = True := eq_true (of_decide_eq_true (by first | (with_reducible assumption) | assumption)); obtain ⟨ad289, A289_0, c289_0, e289, hx289_0, hl289_0, hi289_0⟩ := at_L1 (Kd.S_reads' HO_10.out).2.2 (ji44) p289 q289; obtain rfl : ad273 = ad289 := (by injection e289); obtain ⟨ce289, hce289, hMe289, hcc289⟩ := Kd.S_get HO_10.out [] (ji44) p289 (by first | exact q289 | exact of_decide_eq_true (by first | (with_reducible assumption) | assumption) | (have e_ := (Kd.S_reads' HO_10.out).1; omega)); obtain ⟨ve289_0, rfl, ge289_0⟩ := hMe289; have hv289_0 := hcc289 0 _ rfl; rw [Nat.add_zero, show ((Kd.slice 3 (Kd.int .i64))).sz = 1 from rfl, Nat.mul_one] at hv289_0; replace hv289_0 := Option.some.inj (hv289_0.symm.trans hx289_0); rw [hv289_0] at ge289_0; have HL289_0 := Aside0.mk (show Kd.R (Kd.int .i64) 3 _ _ _ _ (rd_L1 y288 (ji44)) from ge289_0); clear hv289_0 ge289_0; have HX289_0 := Aside0.mk hx289_0; clear hcc289 hce289; have HR289_0 := Aside0.mk hi289_0; have HC289_0 := Aside0.mk hl289_0; clear hi289_0 hl289_0; replace p289 := eq_true p289; replace q289 := eq_true q289; have p64 : 0 ≤ (x12_1 : Int) := of_decide_eq_true (by first | (with_reducible assumption) | assumption); have q64 : (x12_1 : Int) < (((rd_L1 y288 (ji44)).length : Int) : Int) := of_decide_eq_true (by first | (with_reducible assumption) | assumption); obtain ⟨go64, co64, eo64, gb64, gl64, cl64, HG64⟩ := Kd.R_form HL289_0.out (by omega); (first | cases eo64 | (injection eo64 with ea_ en_ ec_; (first | subst ea_ | (injection ea_ with ea_; subst ea_)); subst ec_; clear en_)); have GB64 := Aside0.mk gb64; have GG64 := Aside0.mk HG64; clear gb64 gl64 HG64; obtain ⟨hx64_0, hf64_0⟩ := Kd.R_celln 0 HL289_0.out (x12_1 : Int) p64 q64; replace p64 := eq_true p64; replace q64 := eq_true q64; have hq68 : ((ji44) : Int) < (y288.length : Int) := (by have h_ : ((ji44) : Int) < ((x10_1.length : Int) : Int) := of_decide_eq_true (by first | (with_reducible assumption) | assumption); first | exact h_ | (have e_ := (Kd.S_reads' HO_10.out).1; omega) | simpa only [Ny288.out, List.length_set] using h_); obtain ⟨oki68, ce68, hcl68, hM68, hcc68, hok68, hbk68⟩ := Kd.S_borrow HO_10.out [] ((ji44) : Int) (of_decide_eq_true (by first | (with_reducible assumption) | assumption)) (by first | exact hq68 | (have l_ := (Kd.S_reads' HO_10.out).1; omega)); obtain ⟨ve68_0, rfl, ge68_0⟩ := hM68; have hv68 := hcc68 0 _ rfl; rw [Nat.add_zero, show ((Kd.slice 3 (Kd.int .i64))).sz = 1 from rfl, Nat.mul_one] at hv68; replace hv68 := Option.some.inj (hv68.symm.trans HX289_0.out); subst hv68; clear hcc68 hcl68; replace ge68_0 := (show Kd.R (Kd.int .i64) 3 _ _ _ _ (rd_L1 y288 (ji44)) from ge68_0); have HP68 := Kd.R_putg ge68_0 (x12_1 : Int) 0) | ((with_reducible refine gate_store (t := 3) (p := 108) rfl ?_); refine store_event (t := 3) (p := 108) (v := ?vo_w69) (w1 := (w67.setCell ⟨go64, (x12_1 : Int).toNat, none⟩ (.int .i64 0))) ?hg ?ho ?hn ?hr ?_; (case ho => rfl); (case hg => rfl); (case hn => rfl); (case hr => first | (go_simp; done) | (go_simp; rfl)); intro w69 hw; have hg : w67.grownBy w69 (some go64) := (by rw [hw]; exact HP68.2); have hz_ : Kd.R (Kd.int .i64) 3 w69 w.heap.size oki68 (.slice (some ⟨go64, 0, none⟩) (rd_L1 y288 (ji44)).length c289_0) y290 := (by rw [hw, Ny290.out]; exact HP68.1); have hp_ : Kd.S (Kd.slice 3 (Kd.int .i64)) 22 w69 w.heap.size (fun k_ => some k_ ≠ (v263 : Value).ownBlock ∧ some k_ ≠ (u261000 : Value).ownBlock ∧ some k_ ≠ (u261001 : Value).ownBlock) (.slice (some ad273) x10_1.length co65) y292 := (by rw [Ny292.out]; exact hbk68 hg (fun k_ e_ => by injection e_ with e_; subst e_; exact ge68_0.1 _ rfl) (Kd.M_row hz_)); have hm_ := Kd.R_mono hz_ hok68; clear HP68 hbk68; have n0_ := Aside0.mk (Kd.R_grown1 (by (with_reducible repeat (first | apply Kd.R_alloc | apply Kd.R_drewN | apply Kd.R_drew)); exact HO_8.out) rfl hg ((HL289_0.out.1 _ rfl).1.1)); have n1_ := Aside0.mk (hp_); have n2_ := Aside0.mk (Kd.R_grown1 (by (with_reducible repeat (first | apply Kd.R_alloc | apply Kd.R_drewN | apply Kd.R_drew)); exact HO_261000.out) rfl hg ((HL289_0.out.1 _ rfl).1.2.1)); have n3_ := Aside0.mk (Kd.R_grown1 (by (with_reducible repeat (first | apply Kd.R_alloc | apply Kd.R_drewN | apply Kd.R_drew)); exact HO_261001.out) rfl hg ((HL289_0.out.1 _ rfl).1.2.2)); have n4_ := Aside0.mk (blk_grown (g := gb251) (o := .cells #[.slice (some ad268) l0_0.length c0_0, .slice A0_1 l0_1.length c0_1] 28 (0, 0)) (by (with_reducible repeat (first | refine blk_drewN ?_ _ | refine blk_drew ?_ | refine blk_alloc ?_ _)); exact BK251.out) hg (Kd.R_ne HL289_0.out BK251.out (by decide))); have n5_ := Aside0.mk (blk_grown (g := gb252) (o := .cells #[.slice none 0 0, .slice none 0 0] 28 (0, 0)) (by (with_reducible repeat (first | refine blk_drewN ?_ _ | refine blk_drew ?_ | refine blk_alloc ?_ _)); exact BK252.out) hg (Kd.R_ne HL289_0.out BK252.out (by decide))); have n6_ := Aside0.mk (blk_grown (g := gb260) (o := .cells #[u261000, u261001] 61 (0, 0)) (by (with_reducible repeat (first | refine blk_drewN ?_ _ | refine blk_drew ?_ | refine blk_alloc ?_ _)); exact BK260.out) hg (Kd.R_ne HL289_0.out BK260.out (by decide))); have n7_ := Aside0.mk ((by rw [hw]; exact below_set (HB.out) GB64.out : Below w.heap.size w w69)); have n8_ := Aside0.mk (hm_); have n9_ := Aside0.mk ((Kd.R_reads' hm_).2.1); clear HO_8; clear HO_10; clear HO_261000; clear HO_261001; clear BK251; clear BK252; clear BK260; clear HB; clear HL321; clear HL289_0; have HO_8 := n0_; have HO_10 := n1_; have HO_261000 := n2_; have HO_261001 := n3_; have BK251 := n4_; have BK252 := n5_; have BK260 := n6_; have HB := n7_; have HL322 := n8_; have HC291 := n9_; clear n0_ n1_ n2_ n3_ n4_ n5_ n6_ n7_ n8_ n9_; clear hg hw hp_ hz_ hm_ hok68))
                     go_roundg kj23
                     case measure => have := HK1.out; have := HJ23.out; omega
                     case rel => exact ⟨(x8_1), (y292), (ji44), (x12_1), (x261000_1), (x261001_1), (u261000), (u261001), (by first | rfl | (simp; done) | (simp only [← hji44] <;> (first | rfl | simp)) | (simp [*]; done)), (by first | rfl | (simp; done) | (simp [*]; done)), H', ⟨by have := HK1.out; have := HJ23.out; omega⟩, ⟨by (with_reducible repeat (first | apply Kd.R_alloc | apply Kd.R_drewN | apply Kd.R_drew)); exact HO_8.out⟩, ⟨by (with_reducible repeat (first | apply Kd.S_alloc | apply Kd.S_drewN | apply Kd.S_drew)); exact HO_10.out⟩, ⟨by (with_reducible repeat (first | apply Kd.R_alloc | apply Kd.R_drewN | apply Kd.R_drew)); exact HO_261000.out⟩, ⟨by (with_reducible repeat (first | apply Kd.R_alloc | apply Kd.R_drewN | apply Kd.R_drew)); exact HO_261001.out⟩, ⟨by (with_reducible repeat (first | refine blk_drewN ?_ _ | refine blk_drew ?_ | refine blk_alloc ?_ _)); exact BK251.out⟩, ⟨by (with_reducible repeat (first | refine blk_drewN ?_ _ | refine blk_drew ?_ | refine blk_alloc ?_ _)); exact BK252.out⟩, ⟨by (with_reducible repeat (first | refine blk_drewN ?_ _ | refine blk_drew ?_ | refine blk_alloc ?_ _)); exact BK260.out⟩, ⟨by repeat (first | (with_reducible first | exact HB.out | apply below_alloc | apply pw_below_drewN | apply below_drew1 | refine below_set ?_ GE251.out | refine below_set ?_ GE252.out | refine below_set ?_ GE260.out) | exact HB.out)⟩⟩
                    ·rw [if_neg c63] at H
                     exact absurd H (by simp)
                   ·rw [if_neg c61] at H
                    exact absurd H (by simp)
                  ·rw [if_neg c60] at H
                   have c60b0 : decide ((rd (rd_L1 x10_1 (ji44)) x12_1) ≤ (rd (rd_L1 x10_1 x11_1) (ji41))) = false := decide_eq_false c60
                   clear c60
                   by_cases c70 : x12_1 < ((rd_L1 x10_1 x11_1).length : Int)
                   ·rw [if_pos c70] at H
                    have c70b0 : decide (x12_1 < ((rd_L1 x10_1 x11_1).length : Int)) = true := decide_eq_true c70
                    clear c70
                    obtain ⟨y294, hy294⟩ : ∃ y_ : List Int, y_ = ((rd_L1 x10_1 x11_1).set (x12_1 : Int).toNat (rd (rd_L1 x10_1 x11_1) (ji41))) := ⟨_, rfl⟩
                    replace H : ((some (x10_1.set (x11_1 : Int).toNat y294 : List (List Int))).bind fun y296 => (if (ji41) < ((rd_L1 y296 x11_1).length : Int) then (spec_l13Into.l0 kj23 x8_1 (y296.set (x11_1 : Int).toNat ((rd_L1 y296 x11_1).set ((ji41) : Int).toNat 0)) x11_1 ji41 x261000_1 x261001_1) else (none))) = some (r1, r2, r3) := by first | (rw [hy294]; with_reducible exact H) | (have H2_ := (Option.bind_some _ _).symm.trans H; rw [hy294]; with_reducible exact H2_) | (have H2_ := (Option.bind_some _ _).symm.trans H; with_reducible exact H2_) | with_reducible exact H | (rw [hy294]; exact H) | exact H
                    have Ny294 := Aside0.mk hy294
                    clear hy294
                    obtain ⟨y296, hy296⟩ : ∃ y_ : List (List Int), y_ = (x10_1.set (x11_1 : Int).toNat y294) := ⟨_, rfl⟩
                    replace H : (if (ji41) < ((rd_L1 y296 x11_1).length : Int) then (spec_l13Into.l0 kj23 x8_1 (y296.set (x11_1 : Int).toNat ((rd_L1 y296 x11_1).set ((ji41) : Int).toNat 0)) x11_1 ji41 x261000_1 x261001_1) else (none)) = some (r1, r2, r3) := by first | (rw [hy296]; with_reducible exact H) | (have H2_ := (Option.bind_some _ _).symm.trans H; rw [hy296]; with_reducible exact H2_) | (have H2_ := (Option.bind_some _ _).symm.trans H; with_reducible exact H2_) | with_reducible exact H | (rw [hy296]; exact H) | exact H
                    have Ny296 := Aside0.mk hy296
                    clear hy296
                    by_cases c72 : (ji41) < ((rd_L1 y296 x11_1).length : Int)
                    ·rw [if_pos c72] at H
                     have c72b0 : decide ((ji41) < ((rd_L1 y296 x11_1).length : Int)) = true := decide_eq_true c72
                     clear c72
                     obtain ⟨y298, hy298⟩ : ∃ y_ : List Int, y_ = ((rd_L1 y296 x11_1).set ((ji41) : Int).toNat 0) := ⟨_, rfl⟩
                     replace H : (spec_l13Into.l0 kj23 x8_1 (y296.set (x11_1 : Int).toNat y298) x11_1 ji41 x261000_1 x261001_1) = some (r1, r2, r3) := by first | (rw [hy298]; with_reducible exact H) | (have H2_ := (Option.bind_some _ _).symm.trans H; rw [hy298]; with_reducible exact H2_) | (have H2_ := (Option.bind_some _ _).symm.trans H; with_reducible exact H2_) | with_reducible exact H | (rw [hy298]; exact H) | exact H
                     have Ny298 := Aside0.mk hy298
                     clear hy298
                     obtain ⟨y300, hy300⟩ : ∃ y_ : List (List Int), y_ = (y296.set (x11_1 : Int).toNat y298) := ⟨_, rfl⟩
                     replace H : (spec_l13Into.l0 kj23 x8_1 y300 x11_1 ji41 x261000_1 x261001_1) = some (r1, r2, r3) := by first | (rw [hy300]; with_reducible exact H) | (have H2_ := (Option.bind_some _ _).symm.trans H; rw [hy300]; with_reducible exact H2_) | (have H2_ := (Option.bind_some _ _).symm.trans H; with_reducible exact H2_) | with_reducible exact H | (rw [hy300]; exact H) | exact H
                     have Ny300 := Aside0.mk hy300
                     clear hy300
                     have H' := Aside0.mk H
                     clear H
                     obtain ⟨Ao74, co74, eo74⟩ := Kd.S_slice HO_10.out
                     subst eo74
                     have p273 : 0 ≤ (x11_1 : Int) := of_decide_eq_true (by first | (with_reducible assumption) | assumption)
                     have q273 : x11_1 < (x10_1.length : Int) := of_decide_eq_true (by first | (with_reducible assumption) | assumption)
                     obtain ⟨ad273, A273_0, c273_0, e273, hx273_0, hl273_0, hi273_0⟩ := at_L1 (Kd.S_reads' HO_10.out).2.2 x11_1 p273 q273
                     cases e273
                     obtain ⟨ce273, hce273, hMe273, hcc273⟩ := Kd.S_get HO_10.out [] x11_1 p273 (by first | exact q273 | exact of_decide_eq_true (by first | (with_reducible assumption) | assumption) | (have e_ := (Kd.S_reads' HO_10.out).1; omega))
                     obtain ⟨ve273_0, rfl, ge273_0⟩ := hMe273
                     have hv273_0 := hcc273 0 _ rfl
                     rw [Nat.add_zero, show ((Kd.slice 3 (Kd.int .i64))).sz = 1 from rfl, Nat.mul_one] at hv273_0
                     replace hv273_0 := Option.some.inj (hv273_0.symm.trans hx273_0)
                     rw [hv273_0] at ge273_0
                     have HL273_0 := Aside0.mk (show Kd.R (Kd.int .i64) 3 _ _ _ _ (rd_L1 x10_1 x11_1) from ge273_0)
                     clear hv273_0 ge273_0
                     have HX273_0 := Aside0.mk hx273_0
                     clear hcc273 hce273
                     have HR273_0 := Aside0.mk hi273_0
                     have HC273_0 := Aside0.mk hl273_0
                     clear hi273_0 hl273_0
                     replace p273 := eq_true p273
                     replace q273 := eq_true q273
                     have p274 : 0 ≤ ((ji41) : Int) := of_decide_eq_true (by first | (with_reducible assumption) | assumption)
                     have q274 : (ji41) < ((rd_L1 x10_1 x11_1).length : Int) := of_decide_eq_true (by first | (with_reducible assumption) | assumption)
                     obtain ⟨ad274, e274, hx274_0⟩ := Kd.at_int (by repeat (first | (with_reducible exact HR273_0.out) | (with_reducible refine Kd.C_alloc ?_ _) | (with_reducible refine Kd.C_drewN ?_ _) | (with_reducible refine Kd.C_drew ?_) | exact HR273_0.out)) (ji41) p274 q274
                     cases e274
                     replace p274 := eq_true p274
                     replace q274 := eq_true q274
                     have p275 : 0 ≤ ((ji44) : Int) := of_decide_eq_true (by first | (with_reducible assumption) | assumption)
                     have q275 : (ji44) < (x10_1.length : Int) := of_decide_eq_true (by first | (with_reducible assumption) | assumption)
                     obtain ⟨ad275, A275_0, c275_0, e275, hx275_0, hl275_0, hi275_0⟩ := at_L1 (Kd.S_reads' HO_10.out).2.2 (ji44) p275 q275
                     obtain rfl : ad273 = ad275 := (by injection e275)
                     obtain ⟨ce275, hce275, hMe275, hcc275⟩ := Kd.S_get HO_10.out [] (ji44) p275 (by first | exact q275 | exact of_decide_eq_true (by first | (with_reducible assumption) | assumption) | (have e_ := (Kd.S_reads' HO_10.out).1; omega))
                     obtain ⟨ve275_0, rfl, ge275_0⟩ := hMe275
                     have hv275_0 := hcc275 0 _ rfl
                     rw [Nat.add_zero, show ((Kd.slice 3 (Kd.int .i64))).sz = 1 from rfl, Nat.mul_one] at hv275_0
                     replace hv275_0 := Option.some.inj (hv275_0.symm.trans hx275_0)
                     rw [hv275_0] at ge275_0
                     have HL275_0 := Aside0.mk (show Kd.R (Kd.int .i64) 3 _ _ _ _ (rd_L1 x10_1 (ji44)) from ge275_0)
                     clear hv275_0 ge275_0
                     have HX275_0 := Aside0.mk hx275_0
                     clear hcc275 hce275
                     have HR275_0 := Aside0.mk hi275_0
                     have HC275_0 := Aside0.mk hl275_0
                     clear hi275_0 hl275_0
                     replace p275 := eq_true p275
                     replace q275 := eq_true q275
                     have p276 : 0 ≤ (x12_1 : Int) := of_decide_eq_true (by first | (with_reducible assumption) | assumption)
                     have q276 : x12_1 < ((rd_L1 x10_1 (ji44)).length : Int) := of_decide_eq_true (by first | (with_reducible assumption) | assumption)
                     obtain ⟨ad276, e276, hx276_0⟩ := Kd.at_int (by repeat (first | (with_reducible exact HR275_0.out) | (with_reducible refine Kd.C_alloc ?_ _) | (with_reducible refine Kd.C_drewN ?_ _) | (with_reducible refine Kd.C_drew ?_) | exact HR275_0.out)) x12_1 p276 q276
                     cases e276
                     replace p276 := eq_true p276
                     replace q276 := eq_true q276
                     have p293 : 0 ≤ (x11_1 : Int) := of_decide_eq_true (by first | (with_reducible assumption) | assumption)
                     have q293 : x11_1 < (x10_1.length : Int) := of_decide_eq_true (by first | (with_reducible assumption) | assumption)
                     obtain ⟨ad293, A293_0, c293_0, e293, hx293_0, hl293_0, hi293_0⟩ := at_L1 (Kd.S_reads' HO_10.out).2.2 x11_1 p293 q293
                     obtain rfl : ad273 = ad293 := (by injection e293)
                     obtain ⟨ce293, hce293, hMe293, hcc293⟩ := Kd.S_get HO_10.out [] x11_1 p293 (by first | exact q293 | exact of_decide_eq_true (by first | (with_reducible assumption) | assumption) | (have e_ := (Kd.S_reads' HO_10.out).1; omega))
                     obtain ⟨ve293_0, rfl, ge293_0⟩ := hMe293
                     have hv293_0 := hcc293 0 _ rfl
                     rw [Nat.add_zero, show ((Kd.slice 3 (Kd.int .i64))).sz = 1 from rfl, Nat.mul_one] at hv293_0
                     replace hv293_0 := Option.some.inj (hv293_0.symm.trans hx293_0)
                     rw [hv293_0] at ge293_0
                     have HL293_0 := Aside0.mk (show Kd.R (Kd.int .i64) 3 _ _ _ _ (rd_L1 x10_1 x11_1) from ge293_0)
                     clear hv293_0 ge293_0
                     have HX293_0 := Aside0.mk hx293_0
                     clear hcc293 hce293
                     have HR293_0 := Aside0.mk hi293_0
                     have HC293_0 := Aside0.mk hl293_0
                     clear hi293_0 hl293_0
                     replace p293 := eq_true p293
                     replace q293 := eq_true q293
                     have ea_ := Option.some.inj (hx273_0.symm.trans hx293_0)
                     injection ea_ with ea_ en_ ec_
                     subst ea_
                     subst ec_
                     clear en_
                     have p71 : 0 ≤ (x12_1 : Int) := of_decide_eq_true (by first | (with_reducible assumption) | assumption)
                     have q71 : (x12_1 : Int) < (((rd_L1 x10_1 x11_1).length : Int) : Int) := of_decide_eq_true (by first | (with_reducible assumption) | assumption)
                     obtain ⟨go71, co71, eo71, gb71, gl71, cl71, HG71⟩ := Kd.R_form HL293_0.out (by omega)
                     (first | cases eo71 | (injection eo71 with ea_ en_ ec_; (first | subst ea_ | (injection ea_ with ea_; subst ea_)); subst ec_; clear en_))
                     have GB71 := Aside0.mk gb71
                     have GG71 := Aside0.mk HG71
                     clear gb71 gl71 HG71
                     (first | simp only [add_plain] at hx274_0 | skip)
                     obtain ⟨hx71_0, hf71_0⟩ := Kd.R_celln 0 HL293_0.out (x12_1 : Int) p71 q71
                     replace p71 := eq_true p71
                     replace q71 := eq_true q71
                     have hq75 : (x11_1 : Int) < (x10_1.length : Int) := (by have h_ : (x11_1 : Int) < ((x10_1.length : Int) : Int) := of_decide_eq_true (by first | (with_reducible assumption) | assumption); first | exact h_ | (have e_ := (Kd.S_reads' HO_10.out).1; omega) | simpa only [List.length_set, List.length_set] using h_)
                     obtain ⟨oki75, ce75, hcl75, hM75, hcc75, hok75, hbk75⟩ := Kd.S_borrow HO_10.out [] (x11_1 : Int) (of_decide_eq_true (by first | (with_reducible assumption) | assumption)) hq75
                     obtain ⟨ve75_0, rfl, ge75_0⟩ := hM75
                     have hv75 := hcc75 0 _ rfl
                     rw [Nat.add_zero, show ((Kd.slice 3 (Kd.int .i64))).sz = 1 from rfl, Nat.mul_one] at hv75
                     replace hv75 := Option.some.inj (hv75.symm.trans HX293_0.out)
                     subst hv75
                     clear hcc75 hcl75
                     replace ge75_0 := (show Kd.R (Kd.int .i64) 3 _ _ _ _ (rd_L1 x10_1 x11_1) from ge75_0)
                     have HP75 := Kd.R_putg ge75_0 (x12_1 : Int) (rd (rd_L1 x10_1 x11_1) (ji41))
                     go_wp2_with (first | ((with_reducible refine gate_store (t := 3) (p := 100) rfl ?_); refine store_event (t := 3) (p := 100) (v := ?vo_w76) (w1 := (wc.setCell ⟨go71, (x12_1 : Int).toNat, none⟩ (.int .i64 (rd (rd_L1 x10_1 x11_1) (ji41))))) ?hg ?ho ?hn ?hr ?_; (case ho => rfl); (case hg => rfl); (case hn => rfl); (case hr => first | (go_simp; done) | (go_simp; rfl)); intro w76 hw; have hg : wc.grownBy w76 (some go71) := (by rw [hw]; exact HP75.2); have hz_ : Kd.R (Kd.int .i64) 3 w76 w.heap.size oki75 (.slice (some ⟨go71, 0, none⟩) (rd_L1 x10_1 x11_1).length c273_0) y294 := (by rw [hw, Ny294.out]; exact HP75.1); have hp_ : Kd.S (Kd.slice 3 (Kd.int .i64)) 22 w76 w.heap.size (fun k_ => some k_ ≠ (v263 : Value).ownBlock ∧ some k_ ≠ (u261000 : Value).ownBlock ∧ some k_ ≠ (u261001 : Value).ownBlock) (.slice (some ad273) x10_1.length co74) y296 := (by rw [Ny296.out]; exact hbk75 hg (fun k_ e_ => by injection e_ with e_; subst e_; exact ge75_0.1 _ rfl) (Kd.M_row hz_)); have hm_ := Kd.R_mono hz_ hok75; clear HP75 hbk75; have n0_ := Aside0.mk (Kd.R_grown1 (by (with_reducible repeat (first | apply Kd.R_alloc | apply Kd.R_drewN | apply Kd.R_drew)); exact HO_8.out) rfl hg ((HL293_0.out.1 _ rfl).1.1)); have n1_ := Aside0.mk (hp_); have n2_ := Aside0.mk (Kd.R_grown1 (by (with_reducible repeat (first | apply Kd.R_alloc | apply Kd.R_drewN | apply Kd.R_drew)); exact HO_261000.out) rfl hg ((HL293_0.out.1 _ rfl).1.2.1)); have n3_ := Aside0.mk (Kd.R_grown1 (by (with_reducible repeat (first | apply Kd.R_alloc | apply Kd.R_drewN | apply Kd.R_drew)); exact HO_261001.out) rfl hg ((HL293_0.out.1 _ rfl).1.2.2)); have n4_ := Aside0.mk (blk_grown (g := gb251) (o := .cells #[.slice (some ad268) l0_0.length c0_0, .slice A0_1 l0_1.length c0_1] 28 (0, 0)) (by (with_reducible repeat (first | refine blk_drewN ?_ _ | refine blk_drew ?_ | refine blk_alloc ?_ _)); exact BK251.out) hg (Kd.R_ne HL293_0.out BK251.out (by decide))); have n5_ := Aside0.mk (blk_grown (g := gb252) (o := .cells #[.slice none 0 0, .slice none 0 0] 28 (0, 0)) (by (with_reducible repeat (first | refine blk_drewN ?_ _ | refine blk_drew ?_ | refine blk_alloc ?_ _)); exact BK252.out) hg (Kd.R_ne HL293_0.out BK252.out (by decide))); have n6_ := Aside0.mk (blk_grown (g := gb260) (o := .cells #[u261000, u261001] 61 (0, 0)) (by (with_reducible repeat (first | refine blk_drewN ?_ _ | refine blk_drew ?_ | refine blk_alloc ?_ _)); exact BK260.out) hg (Kd.R_ne HL293_0.out BK260.out (by decide))); have n7_ := Aside0.mk ((by rw [hw]; exact below_set (HB.out) GB71.out : Below w.heap.size w w76)); have n8_ := Aside0.mk (hm_); have n9_ := Aside0.mk ((Kd.R_reads' hm_).2.1); clear HO_8; clear HO_10; clear HO_261000; clear HO_261001; clear BK251; clear BK252; clear BK260; clear HB; clear HL273_0; clear HL275_0; clear HL293_0; have HO_8 := n0_; have HO_10 := n1_; have HO_261000 := n2_; have HO_261001 := n3_; have BK251 := n4_; have BK252 := n5_; have BK260 := n6_; have HB := n7_; have HL323 := n8_; have HC295 := n9_; clear n0_ n1_ n2_ n3_ n4_ n5_ n6_ n7_ n8_ n9_; clear hg hw hp_ hz_ hm_ hok75; have p297 : 0 ≤ (x11_1 : Int) := of_decide_eq_true (by first | (with_reducible assumption) | assumption); have q297 : x11_1 < (y296.length : Int) := (by have h_ : (x11_1 : Int) < ((x10_1.length : Int) : Int) := of_decide_eq_true (by first | (with_reducible assumption) | assumption); first | (have e_ := (Kd.S_reads' HO_10.out).1; omega) | simpa only [Ny296.out, List.length_set] using h_); have ql297 : ((x11_1 : Int) < ((x10_1.length : Int) : Int)) = True := eq_true (of_decide_eq_true (by first | (with_reducible assumption) | assumption)); obtain ⟨ad297, A297_0, c297_0, e297, hx297_0, hl297_0, hi297_0⟩ := at_L1 (Kd.S_reads' HO_10.out).2.2 x11_1 p297 q297; obtain rfl : ad273 = ad297 := (by injection e297); obtain ⟨ce297, hce297, hMe297, hcc297⟩ := Kd.S_get HO_10.out [] x11_1 p297 (by first | exact q297 | exact of_decide_eq_true (by first | (with_reducible assumption) | assumption) | (have e_ := (Kd.S_reads' HO_10.out).1; omega)); obtain ⟨ve297_0, rfl, ge297_0⟩ := hMe297; have hv297_0 := hcc297 0 _ rfl; rw [Nat.add_zero, show ((Kd.slice 3 (Kd.int .i64))).sz = 1 from rfl, Nat.mul_one] at hv297_0; replace hv297_0 := Option.some.inj (hv297_0.symm.trans hx297_0); rw [hv297_0] at ge297_0; have HL297_0 := Aside0.mk (show Kd.R (Kd.int .i64) 3 _ _ _ _ (rd_L1 y296 x11_1) from ge297_0); clear hv297_0 ge297_0; have HX297_0 := Aside0.mk hx297_0; clear hcc297 hce297; have HR297_0 := Aside0.mk hi297_0; have HC297_0 := Aside0.mk hl297_0; clear hi297_0 hl297_0; replace p297 := eq_true p297; replace q297 := eq_true q297; have p73 : 0 ≤ ((ji41) : Int) := of_decide_eq_true (by first | (with_reducible assumption) | assumption); have q73 : ((ji41) : Int) < (((rd_L1 y296 x11_1).length : Int) : Int) := of_decide_eq_true (by first | (with_reducible assumption) | assumption); obtain ⟨go73, co73, eo73, gb73, gl73, cl73, HG73⟩ := Kd.R_form HL297_0.out (by omega); (first | cases eo73 | (injection eo73 with ea_ en_ ec_; (first | subst ea_ | (injection ea_ with ea_; subst ea_)); subst ec_; clear en_)); have GB73 := Aside0.mk gb73; have GG73 := Aside0.mk HG73; clear gb73 gl73 HG73; obtain ⟨hx73_0, hf73_0⟩ := Kd.R_celln 0 HL297_0.out ((ji41) : Int) p73 q73; replace p73 := eq_true p73; replace q73 := eq_true q73; have hq77 : (x11_1 : Int) < (y296.length : Int) := (by have h_ : (x11_1 : Int) < ((x10_1.length : Int) : Int) := of_decide_eq_true (by first | (with_reducible assumption) | assumption); first | exact h_ | (have e_ := (Kd.S_reads' HO_10.out).1; omega) | simpa only [Ny296.out, List.length_set] using h_); obtain ⟨oki77, ce77, hcl77, hM77, hcc77, hok77, hbk77⟩ := Kd.S_borrow HO_10.out [] (x11_1 : Int) (of_decide_eq_true (by first | (with_reducible assumption) | assumption)) (by first | exact hq77 | (have l_ := (Kd.S_reads' HO_10.out).1; omega)); obtain ⟨ve77_0, rfl, ge77_0⟩ := hM77; have hv77 := hcc77 0 _ rfl; rw [Nat.add_zero, show ((Kd.slice 3 (Kd.int .i64))).sz = 1 from rfl, Nat.mul_one] at hv77; replace hv77 := Option.some.inj (hv77.symm.trans HX297_0.out); subst hv77; clear hcc77 hcl77; replace ge77_0 := (show Kd.R (Kd.int .i64) 3 _ _ _ _ (rd_L1 y296 x11_1) from ge77_0); have HP77 := Kd.R_putg ge77_0 ((ji41) : Int) 0) | ((with_reducible refine gate_store (t := 3) (p := 108) rfl ?_); refine store_event (t := 3) (p := 108) (v := ?vo_w78) (w1 := (w76.setCell ⟨go73, ((ji41) : Int).toNat, none⟩ (.int .i64 0))) ?hg ?ho ?hn ?hr ?_; (case ho => rfl); (case hg => rfl); (case hn => rfl); (case hr => first | (go_simp; done) | (go_simp; rfl)); intro w78 hw; have hg : w76.grownBy w78 (some go73) := (by rw [hw]; exact HP77.2); have hz_ : Kd.R (Kd.int .i64) 3 w78 w.heap.size oki77 (.slice (some ⟨go73, 0, none⟩) (rd_L1 y296 x11_1).length c297_0) y298 := (by rw [hw, Ny298.out]; exact HP77.1); have hp_ : Kd.S (Kd.slice 3 (Kd.int .i64)) 22 w78 w.heap.size (fun k_ => some k_ ≠ (v263 : Value).ownBlock ∧ some k_ ≠ (u261000 : Value).ownBlock ∧ some k_ ≠ (u261001 : Value).ownBlock) (.slice (some ad273) x10_1.length co74) y300 := (by rw [Ny300.out]; exact hbk77 hg (fun k_ e_ => by injection e_ with e_; subst e_; exact ge77_0.1 _ rfl) (Kd.M_row hz_)); have hm_ := Kd.R_mono hz_ hok77; clear HP77 hbk77; have n0_ := Aside0.mk (Kd.R_grown1 (by (with_reducible repeat (first | apply Kd.R_alloc | apply Kd.R_drewN | apply Kd.R_drew)); exact HO_8.out) rfl hg ((HL297_0.out.1 _ rfl).1.1)); have n1_ := Aside0.mk (hp_); have n2_ := Aside0.mk (Kd.R_grown1 (by (with_reducible repeat (first | apply Kd.R_alloc | apply Kd.R_drewN | apply Kd.R_drew)); exact HO_261000.out) rfl hg ((HL297_0.out.1 _ rfl).1.2.1)); have n3_ := Aside0.mk (Kd.R_grown1 (by (with_reducible repeat (first | apply Kd.R_alloc | apply Kd.R_drewN | apply Kd.R_drew)); exact HO_261001.out) rfl hg ((HL297_0.out.1 _ rfl).1.2.2)); have n4_ := Aside0.mk (blk_grown (g := gb251) (o := .cells #[.slice (some ad268) l0_0.length c0_0, .slice A0_1 l0_1.length c0_1] 28 (0, 0)) (by (with_reducible repeat (first | refine blk_drewN ?_ _ | refine blk_drew ?_ | refine blk_alloc ?_ _)); exact BK251.out) hg (Kd.R_ne HL297_0.out BK251.out (by decide))); have n5_ := Aside0.mk (blk_grown (g := gb252) (o := .cells #[.slice none 0 0, .slice none 0 0] 28 (0, 0)) (by (with_reducible repeat (first | refine blk_drewN ?_ _ | refine blk_drew ?_ | refine blk_alloc ?_ _)); exact BK252.out) hg (Kd.R_ne HL297_0.out BK252.out (by decide))); have n6_ := Aside0.mk (blk_grown (g := gb260) (o := .cells #[u261000, u261001] 61 (0, 0)) (by (with_reducible repeat (first | refine blk_drewN ?_ _ | refine blk_drew ?_ | refine blk_alloc ?_ _)); exact BK260.out) hg (Kd.R_ne HL297_0.out BK260.out (by decide))); have n7_ := Aside0.mk ((by rw [hw]; exact below_set (HB.out) GB73.out : Below w.heap.size w w78)); have n8_ := Aside0.mk (hm_); have n9_ := Aside0.mk ((Kd.R_reads' hm_).2.1); clear HO_8; clear HO_10; clear HO_261000; clear HO_261001; clear BK251; clear BK252; clear BK260; clear HB; clear HL323; clear HL297_0; have HO_8 := n0_; have HO_10 := n1_; have HO_261000 := n2_; have HO_261001 := n3_; have BK251 := n4_; have BK252 := n5_; have BK260 := n6_; have HB := n7_; have HL324 := n8_; have HC299 := n9_; clear n0_ n1_ n2_ n3_ n4_ n5_ n6_ n7_ n8_ n9_; clear hg hw hp_ hz_ hm_ hok77))
                     go_roundg kj23
                     case measure => have := HK1.out; have := HJ23.out; omega
                     case rel => exact ⟨(x8_1), (y300), (x11_1), (ji41), (x261000_1), (x261001_1), (u261000), (u261001), (by first | rfl | (simp; done) | (simp [*]; done)), (by first | rfl | (simp; done) | (simp only [← hji41] <;> (first | rfl | simp)) | (simp [*]; done)), H', ⟨by have := HK1.out; have := HJ23.out; omega⟩, ⟨by (with_reducible repeat (first | apply Kd.R_alloc | apply Kd.R_drewN | apply Kd.R_drew)); exact HO_8.out⟩, ⟨by (with_reducible repeat (first | apply Kd.S_alloc | apply Kd.S_drewN | apply Kd.S_drew)); exact HO_10.out⟩, ⟨by (with_reducible repeat (first | apply Kd.R_alloc | apply Kd.R_drewN | apply Kd.R_drew)); exact HO_261000.out⟩, ⟨by (with_reducible repeat (first | apply Kd.R_alloc | apply Kd.R_drewN | apply Kd.R_drew)); exact HO_261001.out⟩, ⟨by (with_reducible repeat (first | refine blk_drewN ?_ _ | refine blk_drew ?_ | refine blk_alloc ?_ _)); exact BK251.out⟩, ⟨by (with_reducible repeat (first | refine blk_drewN ?_ _ | refine blk_drew ?_ | refine blk_alloc ?_ _)); exact BK252.out⟩, ⟨by (with_reducible repeat (first | refine blk_drewN ?_ _ | refine blk_drew ?_ | refine blk_alloc ?_ _)); exact BK260.out⟩, ⟨by repeat (first | (with_reducible first | exact HB.out | apply below_alloc | apply pw_below_drewN | apply below_drew1 | refine below_set ?_ GE251.out | refine below_set ?_ GE252.out | refine below_set ?_ GE260.out) | exact HB.out)⟩⟩
                    ·rw [if_neg c72] at H
                     exact absurd H (by simp)
                   ·rw [if_neg c70] at H
                    exact absurd H (by simp)
                ·rw [if_neg c49] at H
                 have c49b0 : decide (0 < (rd (rd_L1 x10_1 (ji44)) x12_1)) = false := decide_eq_false c49
                 clear c49
                 by_cases c79 : x12_1 < ((rd_L1 x10_1 x11_1).length : Int)
                 ·rw [if_pos c79] at H
                  have c79b0 : decide (x12_1 < ((rd_L1 x10_1 x11_1).length : Int)) = true := decide_eq_true c79
                  clear c79
                  obtain ⟨y302, hy302⟩ : ∃ y_ : List Int, y_ = ((rd_L1 x10_1 x11_1).set (x12_1 : Int).toNat (rd (rd_L1 x10_1 x11_1) (ji41))) := ⟨_, rfl⟩
                  replace H : ((some (x10_1.set (x11_1 : Int).toNat y302 : List (List Int))).bind fun y304 => (if (ji41) < ((rd_L1 y304 x11_1).length : Int) then (spec_l13Into.l0 kj23 x8_1 (y304.set (x11_1 : Int).toNat ((rd_L1 y304 x11_1).set ((ji41) : Int).toNat 0)) x11_1 ji41 x261000_1 x261001_1) else (none))) = some (r1, r2, r3) := by first | (rw [hy302]; with_reducible exact H) | (have H2_ := (Option.bind_some _ _).symm.trans H; rw [hy302]; with_reducible exact H2_) | (have H2_ := (Option.bind_some _ _).symm.trans H; with_reducible exact H2_) | with_reducible exact H | (rw [hy302]; exact H) | exact H
                  have Ny302 := Aside0.mk hy302
                  clear hy302
                  obtain ⟨y304, hy304⟩ : ∃ y_ : List (List Int), y_ = (x10_1.set (x11_1 : Int).toNat y302) := ⟨_, rfl⟩
                  replace H : (if (ji41) < ((rd_L1 y304 x11_1).length : Int) then (spec_l13Into.l0 kj23 x8_1 (y304.set (x11_1 : Int).toNat ((rd_L1 y304 x11_1).set ((ji41) : Int).toNat 0)) x11_1 ji41 x261000_1 x261001_1) else (none)) = some (r1, r2, r3) := by first | (rw [hy304]; with_reducible exact H) | (have H2_ := (Option.bind_some _ _).symm.trans H; rw [hy304]; with_reducible exact H2_) | (have H2_ := (Option.bind_some _ _).symm.trans H; with_reducible exact H2_) | with_reducible exact H | (rw [hy304]; exact H) | exact H
                  have Ny304 := Aside0.mk hy304
                  clear hy304
                  by_cases c81 : (ji41) < ((rd_L1 y304 x11_1).length : Int)
                  ·rw [if_pos c81] at H
                   have c81b0 : decide ((ji41) < ((rd_L1 y304 x11_1).length : Int)) = true := decide_eq_true c81
                   clear c81
                   obtain ⟨y306, hy306⟩ : ∃ y_ : List Int, y_ = ((rd_L1 y304 x11_1).set ((ji41) : Int).toNat 0) := ⟨_, rfl⟩
                   replace H : (spec_l13Into.l0 kj23 x8_1 (y304.set (x11_1 : Int).toNat y306) x11_1 ji41 x261000_1 x261001_1) = some (r1, r2, r3) := by first | (rw [hy306]; with_reducible exact H) | (have H2_ := (Option.bind_some _ _).symm.trans H; rw [hy306]; with_reducible exact H2_) | (have H2_ := (Option.bind_some _ _).symm.trans H; with_reducible exact H2_) | with_reducible exact H | (rw [hy306]; exact H) | exact H
                   have Ny306 := Aside0.mk hy306
                   clear hy306
                   obtain ⟨y308, hy308⟩ : ∃ y_ : List (List Int), y_ = (y304.set (x11_1 : Int).toNat y306) := ⟨_, rfl⟩
                   replace H : (spec_l13Into.l0 kj23 x8_1 y308 x11_1 ji41 x261000_1 x261001_1) = some (r1, r2, r3) := by first | (rw [hy308]; with_reducible exact H) | (have H2_ := (Option.bind_some _ _).symm.trans H; rw [hy308]; with_reducible exact H2_) | (have H2_ := (Option.bind_some _ _).symm.trans H; with_reducible exact H2_) | with_reducible exact H | (rw [hy308]; exact H) | exact H
                   have Ny308 := Aside0.mk hy308
                   clear hy308
                   have H' := Aside0.mk H
                   clear H
                   obtain ⟨Ao83, co83, eo83⟩ := Kd.S_slice HO_10.out
                   subst eo83
                   have p273 : 0 ≤ (x11_1 : Int) := of_decide_eq_true (by first | (with_reducible assumption) | assumption)
                   have q273 : x11_1 < (x10_1.length : Int) := of_decide_eq_true (by first | (with_reducible assumption) | assumption)
                   obtain ⟨ad273, A273_0, c273_0, e273, hx273_0, hl273_0, hi273_0⟩ := at_L1 (Kd.S_reads' HO_10.out).2.2 x11_1 p273 q273
                   cases e273
                   obtain ⟨ce273, hce273, hMe273, hcc273⟩ := Kd.S_get HO_10.out [] x11_1 p273 (by first | exact q273 | exact of_decide_eq_true (by first | (with_reducible assumption) | assumption) | (have e_ := (Kd.S_reads' HO_10.out).1; omega))
                   obtain ⟨ve273_0, rfl, ge273_0⟩ := hMe273
                   have hv273_0 := hcc273 0 _ rfl
                   rw [Nat.add_zero, show ((Kd.slice 3 (Kd.int .i64))).sz = 1 from rfl, Nat.mul_one] at hv273_0
                   replace hv273_0 := Option.some.inj (hv273_0.symm.trans hx273_0)
                   rw [hv273_0] at ge273_0
                   have HL273_0 := Aside0.mk (show Kd.R (Kd.int .i64) 3 _ _ _ _ (rd_L1 x10_1 x11_1) from ge273_0)
                   clear hv273_0 ge273_0
                   have HX273_0 := Aside0.mk hx273_0
                   clear hcc273 hce273
                   have HR273_0 := Aside0.mk hi273_0
                   have HC273_0 := Aside0.mk hl273_0
                   clear hi273_0 hl273_0
                   replace p273 := eq_true p273
                   replace q273 := eq_true q273
                   have p274 : 0 ≤ ((ji41) : Int) := of_decide_eq_true (by first | (with_reducible assumption) | assumption)
                   have q274 : (ji41) < ((rd_L1 x10_1 x11_1).length : Int) := of_decide_eq_true (by first | (with_reducible assumption) | assumption)
                   obtain ⟨ad274, e274, hx274_0⟩ := Kd.at_int (by repeat (first | (with_reducible exact HR273_0.out) | (with_reducible refine Kd.C_alloc ?_ _) | (with_reducible refine Kd.C_drewN ?_ _) | (with_reducible refine Kd.C_drew ?_) | exact HR273_0.out)) (ji41) p274 q274
                   cases e274
                   replace p274 := eq_true p274
                   replace q274 := eq_true q274
                   have p275 : 0 ≤ ((ji44) : Int) := of_decide_eq_true (by first | (with_reducible assumption) | assumption)
                   have q275 : (ji44) < (x10_1.length : Int) := of_decide_eq_true (by first | (with_reducible assumption) | assumption)
                   obtain ⟨ad275, A275_0, c275_0, e275, hx275_0, hl275_0, hi275_0⟩ := at_L1 (Kd.S_reads' HO_10.out).2.2 (ji44) p275 q275
                   obtain rfl : ad273 = ad275 := (by injection e275)
                   obtain ⟨ce275, hce275, hMe275, hcc275⟩ := Kd.S_get HO_10.out [] (ji44) p275 (by first | exact q275 | exact of_decide_eq_true (by first | (with_reducible assumption) | assumption) | (have e_ := (Kd.S_reads' HO_10.out).1; omega))
                   obtain ⟨ve275_0, rfl, ge275_0⟩ := hMe275
                   have hv275_0 := hcc275 0 _ rfl
                   rw [Nat.add_zero, show ((Kd.slice 3 (Kd.int .i64))).sz = 1 from rfl, Nat.mul_one] at hv275_0
                   replace hv275_0 := Option.some.inj (hv275_0.symm.trans hx275_0)
                   rw [hv275_0] at ge275_0
                   have HL275_0 := Aside0.mk (show Kd.R (Kd.int .i64) 3 _ _ _ _ (rd_L1 x10_1 (ji44)) from ge275_0)
                   clear hv275_0 ge275_0
                   have HX275_0 := Aside0.mk hx275_0
                   clear hcc275 hce275
                   have HR275_0 := Aside0.mk hi275_0
                   have HC275_0 := Aside0.mk hl275_0
                   clear hi275_0 hl275_0
                   replace p275 := eq_true p275
                   replace q275 := eq_true q275
                   have p276 : 0 ≤ (x12_1 : Int) := of_decide_eq_true (by first | (with_reducible assumption) | assumption)
                   have q276 : x12_1 < ((rd_L1 x10_1 (ji44)).length : Int) := of_decide_eq_true (by first | (with_reducible assumption) | assumption)
                   obtain ⟨ad276, e276, hx276_0⟩ := Kd.at_int (by repeat (first | (with_reducible exact HR275_0.out) | (with_reducible refine Kd.C_alloc ?_ _) | (with_reducible refine Kd.C_drewN ?_ _) | (with_reducible refine Kd.C_drew ?_) | exact HR275_0.out)) x12_1 p276 q276
                   cases e276
                   replace p276 := eq_true p276
                   replace q276 := eq_true q276
                   have p301 : 0 ≤ (x11_1 : Int) := of_decide_eq_true (by first | (with_reducible assumption) | assumption)
                   have q301 : x11_1 < (x10_1.length : Int) := of_decide_eq_true (by first | (with_reducible assumption) | assumption)
                   obtain ⟨ad301, A301_0, c301_0, e301, hx301_0, hl301_0, hi301_0⟩ := at_L1 (Kd.S_reads' HO_10.out).2.2 x11_1 p301 q301
                   obtain rfl : ad273 = ad301 := (by injection e301)
                   obtain ⟨ce301, hce301, hMe301, hcc301⟩ := Kd.S_get HO_10.out [] x11_1 p301 (by first | exact q301 | exact of_decide_eq_true (by first | (with_reducible assumption) | assumption) | (have e_ := (Kd.S_reads' HO_10.out).1; omega))
                   obtain ⟨ve301_0, rfl, ge301_0⟩ := hMe301
                   have hv301_0 := hcc301 0 _ rfl
                   rw [Nat.add_zero, show ((Kd.slice 3 (Kd.int .i64))).sz = 1 from rfl, Nat.mul_one] at hv301_0
                   replace hv301_0 := Option.some.inj (hv301_0.symm.trans hx301_0)
                   rw [hv301_0] at ge301_0
                   have HL301_0 := Aside0.mk (show Kd.R (Kd.int .i64) 3 _ _ _ _ (rd_L1 x10_1 x11_1) from ge301_0)
                   clear hv301_0 ge301_0
                   have HX301_0 := Aside0.mk hx301_0
                   clear hcc301 hce301
                   have HR301_0 := Aside0.mk hi301_0
                   have HC301_0 := Aside0.mk hl301_0
                   clear hi301_0 hl301_0
                   replace p301 := eq_true p301
                   replace q301 := eq_true q301
                   have ea_ := Option.some.inj (hx273_0.symm.trans hx301_0)
                   injection ea_ with ea_ en_ ec_
                   subst ea_
                   subst ec_
                   clear en_
                   have p80 : 0 ≤ (x12_1 : Int) := of_decide_eq_true (by first | (with_reducible assumption) | assumption)
                   have q80 : (x12_1 : Int) < (((rd_L1 x10_1 x11_1).length : Int) : Int) := of_decide_eq_true (by first | (with_reducible assumption) | assumption)
                   obtain ⟨go80, co80, eo80, gb80, gl80, cl80, HG80⟩ := Kd.R_form HL301_0.out (by omega)
                   (first | cases eo80 | (injection eo80 with ea_ en_ ec_; (first | subst ea_ | (injection ea_ with ea_; subst ea_)); subst ec_; clear en_))
                   have GB80 := Aside0.mk gb80
                   have GG80 := Aside0.mk HG80
                   clear gb80 gl80 HG80
                   (first | simp only [add_plain] at hx274_0 | skip)
                   obtain ⟨hx80_0, hf80_0⟩ := Kd.R_celln 0 HL301_0.out (x12_1 : Int) p80 q80
                   replace p80 := eq_true p80
                   replace q80 := eq_true q80
                   have hq84 : (x11_1 : Int) < (x10_1.length : Int) := (by have h_ : (x11_1 : Int) < ((x10_1.length : Int) : Int) := of_decide_eq_true (by first | (with_reducible assumption) | assumption); first | exact h_ | (have e_ := (Kd.S_reads' HO_10.out).1; omega) | simpa only [List.length_set, List.length_set] using h_)
                   obtain ⟨oki84, ce84, hcl84, hM84, hcc84, hok84, hbk84⟩ := Kd.S_borrow HO_10.out [] (x11_1 : Int) (of_decide_eq_true (by first | (with_reducible assumption) | assumption)) hq84
                   obtain ⟨ve84_0, rfl, ge84_0⟩ := hM84
                   have hv84 := hcc84 0 _ rfl
                   rw [Nat.add_zero, show ((Kd.slice 3 (Kd.int .i64))).sz = 1 from rfl, Nat.mul_one] at hv84
                   replace hv84 := Option.some.inj (hv84.symm.trans HX301_0.out)
                   subst hv84
                   clear hcc84 hcl84
                   replace ge84_0 := (show Kd.R (Kd.int .i64) 3 _ _ _ _ (rd_L1 x10_1 x11_1) from ge84_0)
                   have HP84 := Kd.R_putg ge84_0 (x12_1 : Int) (rd (rd_L1 x10_1 x11_1) (ji41))
                   go_wp2_with (first | ((with_reducible refine gate_store (t := 3) (p := 100) rfl ?_); refine store_event (t := 3) (p := 100) (v := ?vo_w85) (w1 := (wc.setCell ⟨go80, (x12_1 : Int).toNat, none⟩ (.int .i64 (rd (rd_L1 x10_1 x11_1) (ji41))))) ?hg ?ho ?hn ?hr ?_; (case ho => rfl); (case hg => rfl); (case hn => rfl); (case hr => first | (go_simp; done) | (go_simp; rfl)); intro w85 hw; have hg : wc.grownBy w85 (some go80) := (by rw [hw]; exact HP84.2); have hz_ : Kd.R (Kd.int .i64) 3 w85 w.heap.size oki84 (.slice (some ⟨go80, 0, none⟩) (rd_L1 x10_1 x11_1).length c273_0) y302 := (by rw [hw, Ny302.out]; exact HP84.1); have hp_ : Kd.S (Kd.slice 3 (Kd.int .i64)) 22 w85 w.heap.size (fun k_ => some k_ ≠ (v263 : Value).ownBlock ∧ some k_ ≠ (u261000 : Value).ownBlock ∧ some k_ ≠ (u261001 : Value).ownBlock) (.slice (some ad273) x10_1.length co83) y304 := (by rw [Ny304.out]; exact hbk84 hg (fun k_ e_ => by injection e_ with e_; subst e_; exact ge84_0.1 _ rfl) (Kd.M_row hz_)); have hm_ := Kd.R_mono hz_ hok84; clear HP84 hbk84; have n0_ := Aside0.mk (Kd.R_grown1 (by (with_reducible repeat (first | apply Kd.R_alloc | apply Kd.R_drewN | apply Kd.R_drew)); exact HO_8.out) rfl hg ((HL301_0.out.1 _ rfl).1.1)); have n1_ := Aside0.mk (hp_); have n2_ := Aside0.mk (Kd.R_grown1 (by (with_reducible repeat (first | apply Kd.R_alloc | apply Kd.R_drewN | apply Kd.R_drew)); exact HO_261000.out) rfl hg ((HL301_0.out.1 _ rfl).1.2.1)); have n3_ := Aside0.mk (Kd.R_grown1 (by (with_reducible repeat (first | apply Kd.R_alloc | apply Kd.R_drewN | apply Kd.R_drew)); exact HO_261001.out) rfl hg ((HL301_0.out.1 _ rfl).1.2.2)); have n4_ := Aside0.mk (blk_grown (g := gb251) (o := .cells #[.slice (some ad268) l0_0.length c0_0, .slice A0_1 l0_1.length c0_1] 28 (0, 0)) (by (with_reducible repeat (first | refine blk_drewN ?_ _ | refine blk_drew ?_ | refine blk_alloc ?_ _)); exact BK251.out) hg (Kd.R_ne HL301_0.out BK251.out (by decide))); have n5_ := Aside0.mk (blk_grown (g := gb252) (o := .cells #[.slice none 0 0, .slice none 0 0] 28 (0, 0)) (by (with_reducible repeat (first | refine blk_drewN ?_ _ | refine blk_drew ?_ | refine blk_alloc ?_ _)); exact BK252.out) hg (Kd.R_ne HL301_0.out BK252.out (by decide))); have n6_ := Aside0.mk (blk_grown (g := gb260) (o := .cells #[u261000, u261001] 61 (0, 0)) (by (with_reducible repeat (first | refine blk_drewN ?_ _ | refine blk_drew ?_ | refine blk_alloc ?_ _)); exact BK260.out) hg (Kd.R_ne HL301_0.out BK260.out (by decide))); have n7_ := Aside0.mk ((by rw [hw]; exact below_set (HB.out) GB80.out : Below w.heap.size w w85)); have n8_ := Aside0.mk (hm_); have n9_ := Aside0.mk ((Kd.R_reads' hm_).2.1); clear HO_8; clear HO_10; clear HO_261000; clear HO_261001; clear BK251; clear BK252; clear BK260; clear HB; clear HL273_0; clear HL275_0; clear HL301_0; have HO_8 := n0_; have HO_10 := n1_; have HO_261000 := n2_; have HO_261001 := n3_; have BK251 := n4_; have BK252 := n5_; have BK260 := n6_; have HB := n7_; have HL325 := n8_; have HC303 := n9_; clear n0_ n1_ n2_ n3_ n4_ n5_ n6_ n7_ n8_ n9_; clear hg hw hp_ hz_ hm_ hok84; have p305 : 0 ≤ (x11_1 : Int) := of_decide_eq_true (by first | (with_reducible assumption) | assumption); have q305 : x11_1 < (y304.length : Int) := (by have h_ : (x11_1 : Int) < ((x10_1.length : Int) : Int) := of_decide_eq_true (by first | (with_reducible assumption) | assumption); first | (have e_ := (Kd.S_reads' HO_10.out).1; omega) | simpa only [Ny304.out, List.length_set] using h_); have ql305 : ((x11_1 : Int) < ((x10_1.length : Int) : Int)) = True := eq_true (of_decide_eq_true (by first | (with_reducible assumption) | assumption)); obtain ⟨ad305, A305_0, c305_0, e305, hx305_0, hl305_0, hi305_0⟩ := at_L1 (Kd.S_reads' HO_10.out).2.2 x11_1 p305 q305; obtain rfl : ad273 = ad305 := (by injection e305); obtain ⟨ce305, hce305, hMe305, hcc305⟩ := Kd.S_get HO_10.out [] x11_1 p305 (by first | exact q305 | exact of_decide_eq_true (by first | (with_reducible assumption) | assumption) | (have e_ := (Kd.S_reads' HO_10.out).1; omega)); obtain ⟨ve305_0, rfl, ge305_0⟩ := hMe305; have hv305_0 := hcc305 0 _ rfl; rw [Nat.add_zero, show ((Kd.slice 3 (Kd.int .i64))).sz = 1 from rfl, Nat.mul_one] at hv305_0; replace hv305_0 := Option.some.inj (hv305_0.symm.trans hx305_0); rw [hv305_0] at ge305_0; have HL305_0 := Aside0.mk (show Kd.R (Kd.int .i64) 3 _ _ _ _ (rd_L1 y304 x11_1) from ge305_0); clear hv305_0 ge305_0; have HX305_0 := Aside0.mk hx305_0; clear hcc305 hce305; have HR305_0 := Aside0.mk hi305_0; have HC305_0 := Aside0.mk hl305_0; clear hi305_0 hl305_0; replace p305 := eq_true p305; replace q305 := eq_true q305; have p82 : 0 ≤ ((ji41) : Int) := of_decide_eq_true (by first | (with_reducible assumption) | assumption); have q82 : ((ji41) : Int) < (((rd_L1 y304 x11_1).length : Int) : Int) := of_decide_eq_true (by first | (with_reducible assumption) | assumption); obtain ⟨go82, co82, eo82, gb82, gl82, cl82, HG82⟩ := Kd.R_form HL305_0.out (by omega); (first | cases eo82 | (injection eo82 with ea_ en_ ec_; (first | subst ea_ | (injection ea_ with ea_; subst ea_)); subst ec_; clear en_)); have GB82 := Aside0.mk gb82; have GG82 := Aside0.mk HG82; clear gb82 gl82 HG82; obtain ⟨hx82_0, hf82_0⟩ := Kd.R_celln 0 HL305_0.out ((ji41) : Int) p82 q82; replace p82 := eq_true p82; replace q82 := eq_true q82; have hq86 : (x11_1 : Int) < (y304.length : Int) := (by have h_ : (x11_1 : Int) < ((x10_1.length : Int) : Int) := of_decide_eq_true (by first | (with_reducible assumption) | assumption); first | exact h_ | (have e_ := (Kd.S_reads' HO_10.out).1; omega) | simpa only [Ny304.out, List.length_set] using h_); obtain ⟨oki86, ce86, hcl86, hM86, hcc86, hok86, hbk86⟩ := Kd.S_borrow HO_10.out [] (x11_1 : Int) (of_decide_eq_true (by first | (with_reducible assumption) | assumption)) (by first | exact hq86 | (have l_ := (Kd.S_reads' HO_10.out).1; omega)); obtain ⟨ve86_0, rfl, ge86_0⟩ := hM86; have hv86 := hcc86 0 _ rfl; rw [Nat.add_zero, show ((Kd.slice 3 (Kd.int .i64))).sz = 1 from rfl, Nat.mul_one] at hv86; replace hv86 := Option.some.inj (hv86.symm.trans HX305_0.out); subst hv86; clear hcc86 hcl86; replace ge86_0 := (show Kd.R (Kd.int .i64) 3 _ _ _ _ (rd_L1 y304 x11_1) from ge86_0); have HP86 := Kd.R_putg ge86_0 ((ji41) : Int) 0) | ((with_reducible refine gate_store (t := 3) (p := 108) rfl ?_); refine store_event (t := 3) (p := 108) (v := ?vo_w87) (w1 := (w85.setCell ⟨go82, ((ji41) : Int).toNat, none⟩ (.int .i64 0))) ?hg ?ho ?hn ?hr ?_; (case ho => rfl); (case hg => rfl); (case hn => rfl); (case hr => first | (go_simp; done) | (go_simp; rfl)); intro w87 hw; have hg : w85.grownBy w87 (some go82) := (by rw [hw]; exact HP86.2); have hz_ : Kd.R (Kd.int .i64) 3 w87 w.heap.size oki86 (.slice (some ⟨go82, 0, none⟩) (rd_L1 y304 x11_1).length c305_0) y306 := (by rw [hw, Ny306.out]; exact HP86.1); have hp_ : Kd.S (Kd.slice 3 (Kd.int .i64)) 22 w87 w.heap.size (fun k_ => some k_ ≠ (v263 : Value).ownBlock ∧ some k_ ≠ (u261000 : Value).ownBlock ∧ some k_ ≠ (u261001 : Value).ownBlock) (.slice (some ad273) x10_1.length co83) y308 := (by rw [Ny308.out]; exact hbk86 hg (fun k_ e_ => by injection e_ with e_; subst e_; exact ge86_0.1 _ rfl) (Kd.M_row hz_)); have hm_ := Kd.R_mono hz_ hok86; clear HP86 hbk86; have n0_ := Aside0.mk (Kd.R_grown1 (by (with_reducible repeat (first | apply Kd.R_alloc | apply Kd.R_drewN | apply Kd.R_drew)); exact HO_8.out) rfl hg ((HL305_0.out.1 _ rfl).1.1)); have n1_ := Aside0.mk (hp_); have n2_ := Aside0.mk (Kd.R_grown1 (by (with_reducible repeat (first | apply Kd.R_alloc | apply Kd.R_drewN | apply Kd.R_drew)); exact HO_261000.out) rfl hg ((HL305_0.out.1 _ rfl).1.2.1)); have n3_ := Aside0.mk (Kd.R_grown1 (by (with_reducible repeat (first | apply Kd.R_alloc | apply Kd.R_drewN | apply Kd.R_drew)); exact HO_261001.out) rfl hg ((HL305_0.out.1 _ rfl).1.2.2)); have n4_ := Aside0.mk (blk_grown (g := gb251) (o := .cells #[.slice (some ad268) l0_0.length c0_0, .slice A0_1 l0_1.length c0_1] 28 (0, 0)) (by (with_reducible repeat (first | refine blk_drewN ?_ _ | refine blk_drew ?_ | refine blk_alloc ?_ _)); exact BK251.out) hg (Kd.R_ne HL305_0.out BK251.out (by decide))); have n5_ := Aside0.mk (blk_grown (g := gb252) (o := .cells #[.slice none 0 0, .slice none 0 0] 28 (0, 0)) (by (with_reducible repeat (first | refine blk_drewN ?_ _ | refine blk_drew ?_ | refine blk_alloc ?_ _)); exact BK252.out) hg (Kd.R_ne HL305_0.out BK252.out (by decide))); have n6_ := Aside0.mk (blk_grown (g := gb260) (o := .cells #[u261000, u261001] 61 (0, 0)) (by (with_reducible repeat (first | refine blk_drewN ?_ _ | refine blk_drew ?_ | refine blk_alloc ?_ _)); exact BK260.out) hg (Kd.R_ne HL305_0.out BK260.out (by decide))); have n7_ := Aside0.mk ((by rw [hw]; exact below_set (HB.out) GB82.out : Below w.heap.size w w87)); have n8_ := Aside0.mk (hm_); have n9_ := Aside0.mk ((Kd.R_reads' hm_).2.1); clear HO_8; clear HO_10; clear HO_261000; clear HO_261001; clear BK251; clear BK252; clear BK260; clear HB; clear HL325; clear HL305_0; have HO_8 := n0_; have HO_10 := n1_; have HO_261000 := n2_; have HO_261001 := n3_; have BK251 := n4_; have BK252 := n5_; have BK260 := n6_; have HB := n7_; have HL326 := n8_; have HC307 := n9_; clear n0_ n1_ n2_ n3_ n4_ n5_ n6_ n7_ n8_ n9_; clear hg hw hp_ hz_ hm_ hok86))
                   go_roundg kj23
                   case measure => have := HK1.out; have := HJ23.out; omega
                   case rel => exact ⟨(x8_1), (y308), (x11_1), (ji41), (x261000_1), (x261001_1), (u261000), (u261001), (by first | rfl | (simp; done) | (simp [*]; done)), (by first | rfl | (simp; done) | (simp only [← hji41] <;> (first | rfl | simp)) | (simp [*]; done)), H', ⟨by have := HK1.out; have := HJ23.out; omega⟩, ⟨by (with_reducible repeat (first | apply Kd.R_alloc | apply Kd.R_drewN | apply Kd.R_drew)); exact HO_8.out⟩, ⟨by (with_reducible repeat (first | apply Kd.S_alloc | apply Kd.S_drewN | apply Kd.S_drew)); exact HO_10.out⟩, ⟨by (with_reducible repeat (first | apply Kd.R_alloc | apply Kd.R_drewN | apply Kd.R_drew)); exact HO_261000.out⟩, ⟨by (with_reducible repeat (first | apply Kd.R_alloc | apply Kd.R_drewN | apply Kd.R_drew)); exact HO_261001.out⟩, ⟨by (with_reducible repeat (first | refine blk_drewN ?_ _ | refine blk_drew ?_ | refine blk_alloc ?_ _)); exact BK251.out⟩, ⟨by (with_reducible repeat (first | refine blk_drewN ?_ _ | refine blk_drew ?_ | refine blk_alloc ?_ _)); exact BK252.out⟩, ⟨by (with_reducible repeat (first | refine blk_drewN ?_ _ | refine blk_drew ?_ | refine blk_alloc ?_ _)); exact BK260.out⟩, ⟨by repeat (first | (with_reducible first | exact HB.out | apply below_alloc | apply pw_below_drewN | apply below_drew1 | refine below_set ?_ GE251.out | refine below_set ?_ GE252.out | refine below_set ?_ GE260.out) | exact HB.out)⟩⟩
                  ·rw [if_neg c81] at H
                   exact absurd H (by simp)
                 ·rw [if_neg c79] at H
                  exact absurd H (by simp)
               ·rw [if_neg c48] at H
                exact absurd H (by simp)
              ·rw [if_neg c47] at H
               exact absurd H (by simp)
             ·rw [if_neg c46] at H
              exact absurd H (by simp)
            ·rw [if_neg c45] at H
             exact absurd H (by simp)
           ·rw [if_neg c43] at H
            exact absurd H (by simp)
          ·rw [if_neg c42] at H
           exact absurd H (by simp)
         ·rw [if_neg c40] at H
          exact absurd H (by simp)
        ·rw [if_neg c39] at H
         exact absurd H (by simp)
       ·replace c38 := Bool.eq_false_iff.mpr c38
        subst c38
        have H1 : ((spec_RemoveBox.f kj23 x261000_1 x11_1).bind fun bt309 => ((spec_l13Tableau.f kj23 x10_1 x8_1 bt309.1).bind fun bt313 => (some (bt313.1, bt313.2, x11_1)))) = some (r1, r2, r3) := by rw [if_neg (show ¬ (false = true) by decide)] at H; exact H
        clear H
        have H := H1
        clear H1
        replace H := Option.bind_eq_some_iff.mp H
        obtain ⟨⟨t309, t310⟩, A880, H⟩ := H
        replace H : ((spec_l13Tableau.f kj23 x10_1 x8_1 t309).bind fun bt313 => (some (bt313.1, bt313.2, x11_1))) = some (r1, r2, r3) := H
        have A88 := Aside0.mk A880
        clear A880
        replace H := Option.bind_eq_some_iff.mp H
        obtain ⟨⟨t313, t316⟩, A890, H⟩ := H
        replace H : (some (t313, t316, x11_1)) = some (r1, r2, r3) := H
        have A89 := Aside0.mk A890
        clear A890
        simp only [Option.some.injEq, Prod.mk.injEq] at H
        obtain ⟨rfl, rfl, rfl⟩ := H
        have hnb90 := NB260_251.out
        have hnc90 := NB251_260.out
        have hnb91 := NB260_252.out
        have hnc91 := NB252_260.out
        have hcz92_0 : wc.cell? ⟨gb260, 0, none⟩ = some (u261000) := (blk_cell BK260.out 0).trans rfl
        have hcz92_1 : wc.cell? ⟨gb260, 1, none⟩ = some (u261001) := (blk_cell BK260.out 1).trans rfl
        have hfz92_0 := blk_frozen BK260.out 0
        have hfz92_1 := blk_frozen BK260.out 1
        obtain ⟨Ao93, co93, eo93⟩ := Kd.R_slice HO_261000.out
        subst eo93
        go_wp2_with (first | ((with_reducible refine gate_callee (f := 79) rfl ?_); refine zG (some 113) Try.func79 #[.slice Ao93 x261000_1.length co93, .int .i64 x11_1] ?_; (with_reducible refine (spec_RemoveBox.calls kj23 _ _ x261000_1 x11_1 t309 t310 _ ?side1 ?side2 A88.out).mono ?_); (case side1 => repeat (first | exact (Kd.R_reads' HO_261000.out).2.2 | (with_reducible refine Kd.C_alloc ?_ _) | (with_reducible refine Kd.C_drewN ?_ _) | (with_reducible refine Kd.C_drew ?_))); (case side2 => exact (Kd.R_reads' HO_261000.out).2.1); rintro e w94 ⟨v311, rfl, ho0, hb⟩; refine ⟨_, rfl, ?_⟩; have n0_ := Aside0.mk (Kd.R_elder' (by (with_reducible repeat (first | apply Kd.R_alloc | apply Kd.R_drewN | apply Kd.R_drew)); exact HO_8.out) (Kd.R_base ho0) hb); have n1_ := Aside0.mk (Kd.S_elder' (by (with_reducible repeat (first | apply Kd.S_alloc | apply Kd.S_drewN | apply Kd.S_drew)); exact HO_10.out) (Kd.R_base ho0) hb); have n2_ := Aside0.mk (Kd.R_elder' (by (with_reducible repeat (first | apply Kd.R_alloc | apply Kd.R_drewN | apply Kd.R_drew)); exact HO_261000.out) (Kd.R_base ho0) hb); have n3_ := Aside0.mk (Kd.R_elder' (by (with_reducible repeat (first | apply Kd.R_alloc | apply Kd.R_drewN | apply Kd.R_drew)); exact HO_261001.out) (Kd.R_base ho0) hb); have n4_ := Aside0.mk (Kd.R_lower (Kd.R_new' (Kd.R_new' (Kd.R_new' ho0 (Kd.R_lt (by (with_reducible repeat (first | apply Kd.R_alloc | apply Kd.R_drewN | apply Kd.R_drew)); exact HO_8.out))) (Kd.R_lt (by (with_reducible repeat (first | apply Kd.R_alloc | apply Kd.R_drewN | apply Kd.R_drew)); exact HO_261000.out))) (Kd.R_lt (by (with_reducible repeat (first | apply Kd.R_alloc | apply Kd.R_drewN | apply Kd.R_drew)); exact HO_261001.out))) (below_size (by repeat (first | (with_reducible first | exact HB.out | apply below_alloc | apply pw_below_drewN | apply below_drew1 | refine below_set ?_ GE251.out | refine below_set ?_ GE252.out | refine below_set ?_ GE260.out) | exact HB.out)))); have n5_ := Aside0.mk (blk_below (g := gb251) (o := .cells #[.slice (some ad268) l0_0.length c0_0, .slice A0_1 l0_1.length c0_1] 28 (0, 0)) (by (with_reducible repeat (first | refine blk_drewN ?_ _ | refine blk_drew ?_ | refine blk_alloc ?_ _)); exact BK251.out) hb); have n6_ := Aside0.mk (blk_below (g := gb252) (o := .cells #[.slice none 0 0, .slice none 0 0] 28 (0, 0)) (by (with_reducible repeat (first | refine blk_drewN ?_ _ | refine blk_drew ?_ | refine blk_alloc ?_ _)); exact BK252.out) hb); have n7_ := Aside0.mk (blk_below (g := gb260) (o := .cells #[.slice Ao93 x261000_1.length co93, u261001] 61 (0, 0)) (by (with_reducible repeat (first | refine blk_drewN ?_ _ | refine blk_drew ?_ | refine blk_alloc ?_ _)); exact BK260.out) hb); have n8_ := Aside0.mk (below_step (by repeat (first | (with_reducible first | exact HB.out | apply below_alloc | apply pw_below_drewN | apply below_drew1 | refine below_set ?_ GE251.out | refine below_set ?_ GE252.out | refine below_set ?_ GE260.out) | exact HB.out)) hb); clear HO_8; clear HO_10; clear HO_261000; clear HO_261001; clear BK251; clear BK252; clear BK260; clear HB; have HO_8 := n0_; have HO_10 := n1_; have HO_261000 := n2_; have HO_261001 := n3_; have HO312 := n4_; have BK251 := n5_; have BK252 := n6_; have BK260 := n7_; have HB := n8_; clear n0_ n1_ n2_ n3_ n4_ n5_ n6_ n7_ n8_; (try clear hb); (try clear hb2); (try clear hk); (try clear hi); (try clear ho0); obtain ⟨Ao95, co95, eo95⟩ := Kd.S_slice HO_10.out; subst eo95; obtain ⟨Ao96, co96, eo96⟩ := Kd.R_slice HO_8.out; subst eo96; obtain ⟨Ao97, co97, eo97⟩ := Kd.R_slice HO312.out; subst eo97) | ((with_reducible refine gate_callee (f := 56) rfl ?_); refine zG (some 119) Try.func56 #[.slice Ao95 x10_1.length co95, .slice Ao96 x8_1.length co96, .slice Ao97 t309.length co97] ?_; (with_reducible refine (spec_l13Tableau.calls kj23 _ _ x10_1 _ _ x8_1 _ _ t309 t313 t316 _ ?side1 ?side2 ?side3 ?side4 ?side5 ?side6 A89.out).mono ?_); (case side1 => repeat (first | exact (Kd.S_reads' HO_10.out).2.2 | (with_reducible refine Kd.C_alloc ?_ _) | (with_reducible refine Kd.C_drewN ?_ _) | (with_reducible refine Kd.C_drew ?_))); (case side2 => exact (Kd.S_reads' HO_10.out).2.1); (case side3 => repeat (first | exact (Kd.R_reads' HO_8.out).2.2 | (with_reducible refine Kd.C_alloc ?_ _) | (with_reducible refine Kd.C_drewN ?_ _) | (with_reducible refine Kd.C_drew ?_))); (case side4 => exact (Kd.R_reads' HO_8.out).2.1); (case side5 => repeat (first | exact (Kd.R_reads' HO312.out).2.2 | (with_reducible refine Kd.C_alloc ?_ _) | (with_reducible refine Kd.C_drewN ?_ _) | (with_reducible refine Kd.C_drew ?_))); (case side6 => exact (Kd.R_reads' HO312.out).2.1); rintro e w98 ⟨v314, v317, rfl, ho0, ho1, hb⟩; refine ⟨_, rfl, ?_⟩; have n0_ := Aside0.mk (Kd.R_elder' (by (with_reducible repeat (first | apply Kd.R_alloc | apply Kd.R_drewN | apply Kd.R_drew)); exact HO_8.out) (Kd.R_base ho0) hb); have n1_ := Aside0.mk (Kd.S_mono (Kd.S_told (Kd.S_told (Kd.S_old (by (with_reducible repeat (first | apply Kd.S_alloc | apply Kd.S_drewN | apply Kd.S_drew)); exact HO_10.out) hb) (Kd.R_base ho0)) (Kd.S_base ho1)) (fun _ h_ => h_.1)); have n2_ := Aside0.mk (Kd.R_elder' (by (with_reducible repeat (first | apply Kd.R_alloc | apply Kd.R_drewN | apply Kd.R_drew)); exact HO_261000.out) (Kd.R_base ho0) hb); have n3_ := Aside0.mk (Kd.R_elder' (by (with_reducible repeat (first | apply Kd.R_alloc | apply Kd.R_drewN | apply Kd.R_drew)); exact HO_261001.out) (Kd.R_base ho0) hb); have n4_ := Aside0.mk (Kd.R_elder' (by (with_reducible repeat (first | apply Kd.R_alloc | apply Kd.R_drewN | apply Kd.R_drew)); exact HO312.out) (Kd.R_base ho0) hb); have n5_ := Aside0.mk (Kd.R_lower (Kd.R_new' (Kd.R_new' (Kd.R_new' (Kd.R_new' ho0 (Kd.R_lt (by (with_reducible repeat (first | apply Kd.R_alloc | apply Kd.R_drewN | apply Kd.R_drew)); exact HO_8.out))) (Kd.R_lt (by (with_reducible repeat (first | apply Kd.R_alloc | apply Kd.R_drewN | apply Kd.R_drew)); exact HO_261000.out))) (Kd.R_lt (by (with_reducible repeat (first | apply Kd.R_alloc | apply Kd.R_drewN | apply Kd.R_drew)); exact HO_261001.out))) (Kd.R_lt (by (with_reducible repeat (first | apply Kd.R_alloc | apply Kd.R_drewN | apply Kd.R_drew)); exact HO312.out))) (below_size (by repeat (first | (with_reducible first | exact HB.out | apply below_alloc | apply pw_below_drewN | apply below_drew1 | refine below_set ?_ GE251.out | refine below_set ?_ GE252.out | refine below_set ?_ GE260.out) | exact HB.out)))); have n6_ := Aside0.mk (Kd.S_lower (Kd.S_new' (Kd.S_new' (Kd.S_new' (Kd.S_new' (Kd.S_new' ho1 (Kd.R_lt (by (with_reducible repeat (first | apply Kd.R_alloc | apply Kd.R_drewN | apply Kd.R_drew)); exact HO_8.out))) (Kd.S_lt (by (with_reducible repeat (first | apply Kd.S_alloc | apply Kd.S_drewN | apply Kd.S_drew)); exact HO_10.out))) (Kd.R_lt (by (with_reducible repeat (first | apply Kd.R_alloc | apply Kd.R_drewN | apply Kd.R_drew)); exact HO_261000.out))) (Kd.R_lt (by (with_reducible repeat (first | apply Kd.R_alloc | apply Kd.R_drewN | apply Kd.R_drew)); exact HO_261001.out))) (Kd.R_lt (by (with_reducible repeat (first | apply Kd.R_alloc | apply Kd.R_drewN | apply Kd.R_drew)); exact HO312.out))) (below_size (by repeat (first | (with_reducible first | exact HB.out | apply below_alloc | apply pw_below_drewN | apply below_drew1 | refine below_set ?_ GE251.out | refine below_set ?_ GE252.out | refine below_set ?_ GE260.out) | exact HB.out)))); have n7_ := Aside0.mk (blk_below (g := gb251) (o := .cells #[.slice (some ad268) l0_0.length c0_0, .slice A0_1 l0_1.length c0_1] 28 (0, 0)) (by (with_reducible repeat (first | refine blk_drewN ?_ _ | refine blk_drew ?_ | refine blk_alloc ?_ _)); exact BK251.out) hb); have n8_ := Aside0.mk (blk_below (g := gb252) (o := .cells #[.slice none 0 0, .slice none 0 0] 28 (0, 0)) (by (with_reducible repeat (first | refine blk_drewN ?_ _ | refine blk_drew ?_ | refine blk_alloc ?_ _)); exact BK252.out) hb); have n9_ := Aside0.mk (blk_below (g := gb260) (o := .cells #[.slice Ao93 x261000_1.length co93, u261001] 61 (0, 0)) (by (with_reducible repeat (first | refine blk_drewN ?_ _ | refine blk_drew ?_ | refine blk_alloc ?_ _)); exact BK260.out) hb); have n10_ := Aside0.mk (below_step (by repeat (first | (with_reducible first | exact HB.out | apply below_alloc | apply pw_below_drewN | apply below_drew1 | refine below_set ?_ GE251.out | refine below_set ?_ GE252.out | refine below_set ?_ GE260.out) | exact HB.out)) hb); clear HO_8; clear HO_10; clear HO_261000; clear HO_261001; clear HO312; clear BK251; clear BK252; clear BK260; clear HB; have HO_8 := n0_; have HO_10 := n1_; have HO_261000 := n2_; have HO_261001 := n3_; have HO312 := n4_; have HO315 := n5_; have HO318 := n6_; have BK251 := n7_; have BK252 := n8_; have BK260 := n9_; have HB := n10_; clear n0_ n1_ n2_ n3_ n4_ n5_ n6_ n7_ n8_ n9_ n10_; (try clear hb); (try clear hb2); (try clear hk); (try clear hi); (try clear ho0); (try clear ho1); obtain ⟨Ao99, co99, eo99⟩ := Kd.R_slice HO315.out; subst eo99; have hnb100 := NB252_251.out; have hnc100 := NB251_252.out; have hcz101_0 : w98.cell? ⟨gb252, 0, none⟩ = some (.slice none 0 0) := (blk_cell BK252.out 0).trans rfl; have hcz101_1 : w98.cell? ⟨gb252, 1, none⟩ = some (.slice none 0 0) := (blk_cell BK252.out 1).trans rfl; have hfz101_0 := blk_frozen BK252.out 0; have hfz101_1 := blk_frozen BK252.out 1; obtain ⟨Ao102, co102, eo102⟩ := Kd.S_slice HO318.out; subst eo102))
        refine bodyPost_ret (results_ct rfl _ _ gb252 28 #[.slice Ao99 t313.length co99, .slice Ao102 t316.length co102] (0, 0) _ rfl (by (with_reducible repeat (first | refine blk_drewN ?_ _ | refine blk_drew ?_ | refine blk_alloc ?_ _)); refine blk_put (cs := #[.slice Ao99 t313.length co99, .slice none 0 0]) ?_ 1 _ rfl; (with_reducible repeat (first | refine blk_drewN ?_ _ | refine blk_drew ?_ | refine blk_alloc ?_ _)); refine blk_put (cs := #[.slice none 0 0, .slice none 0 0]) ?_ 0 _ rfl; (with_reducible repeat (first | refine blk_drewN ?_ _ | refine blk_drew ?_ | refine blk_alloc ?_ _)); exact BK252.out) Try.underlying28 rfl (by kernel_rfl)) rfl ?_
        exact ⟨_, _, by first | rfl | (simp [errW_none, errW_some] <;> rfl) | (simp [*, errW_none, errW_some] <;> rfl), by (with_reducible repeat (first | apply Kd.R_alloc | apply Kd.R_drewN | apply Kd.R_drew)); exact Kd.R_mono (Kd.R_far (p := ⟨gb252, 1, none⟩) (Kd.R_far (p := ⟨gb252, 0, none⟩) (Kd.R_types HO315.out BK252.out (by decide)) (fun _ hk => hk.2) (.slice Ao99 t313.length co99)) (fun _ hk => hk.2) (.slice Ao102 t316.length co102)) (fun _ hk => trivial), by (with_reducible repeat (first | apply Kd.S_alloc | apply Kd.S_drewN | apply Kd.S_drew)); exact Kd.S_mono (Kd.S_far (p := ⟨gb252, 1, none⟩) (Kd.S_far (p := ⟨gb252, 0, none⟩) (Kd.S_types HO318.out BK252.out (by decide)) (fun _ hk => hk.2) (.slice Ao99 t313.length co99)) (fun _ hk => hk.2) (.slice Ao102 t316.length co102)) (fun _ hk => hk.1.1.1.1.1.1), by repeat (first | (with_reducible first | exact HB.out | apply below_alloc | apply pw_below_drewN | apply below_drew1 | refine below_set ?_ GE251.out | refine below_set ?_ GE252.out | refine below_set ?_ GE260.out) | exact HB.out)⟩
  ·rw [if_neg c7] at H
   exact absurd H (by simp)
 ·rw [if_neg c6] at H
  exact absurd H (by simp)

end Go.Proofs.Ytljjjdgnpnnmoaa.F
