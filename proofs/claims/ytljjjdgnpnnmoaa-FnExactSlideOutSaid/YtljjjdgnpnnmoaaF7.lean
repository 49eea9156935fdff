/- For each Go function named below: the plain Lean function that it computes, and that its call returns just that; conditions: those that each theorem names. -/
import Derived.Test.YtljjjdgnpnnmoaaF0
import Derived.Test.YtljjjdgnpnnmoaaF4
import Derived.Test.YtljjjdgnpnnmoaaF5
import Derived.Test.YtljjjdgnpnnmoaaF6
namespace Go.Proofs.Ytljjjdgnpnnmoaa.F
open Go.RowKit Go.Proofs.YtljjjdgnpnnmoaaW.PrintWords Go.Proofs.YtljjjdgnpnnmoaaW.PrintLast Go.Proofs.YtljjjdgnpnnmoaaW.PrintMore
attribute [local go_sem] max2_int min2_int max_two min_two max_three min_three max_four min_four   -- for this text's walks alone
set_option linter.unusedVariables false
set_option linter.unusedSimpArgs false

mutual
def spec_SlideOut.j0 : Nat → Int → List Int → Bool → List Int → List (List Int) → Option (List Int × (List (List Int)) × Int × Bool)
 | 0, _, _, _, _, _ => none
 | k + 1, x1, x9, x40, x255000, x255001 => if x40 = true then (some (([] : List Int), ([] : List (List Int)), 0, false)) else ((spec_l13Grid.f k x255000 x255001).bind fun t269 => (if 0 ≤ x1 then (if x1 < (x9.length : Int) then (spec_SlideOut.l0 k x9 t269 x1 (wrap64 ((rd x9 x1) - 1)) x255000 x255001) else (none)) else (none)))
def spec_SlideOut.l0 : Nat → List Int → List (List Int) → Int → Int → List Int → List (List Int) → Option (List Int × (List (List Int)) × Int × Bool)
 | 0, _, _, _, _, _, _ => none
 | k + 1, x9, x11, x12, x13, x255000, x255001 => if x13 > 0 then (if 0 ≤ x12 then (if x12 < (x11.length : Int) then (if 0 ≤ (wrap64 (x13 - 1)) then (if (wrap64 (x13 - 1)) < ((rd_L1 x11 x12).length : Int) then (spec_SlideOut.j2 k x9 x11 x12 x13 (rd (rd_L1 x11 x12) (wrap64 (x13 - 1))) x255000 x255001) else (none)) else (none)) else (none)) else (none)) else (spec_SlideOut.j2 k x9 x11 x12 x13 0 x255000 x255001)
def spec_SlideOut.j2 : Nat → List Int → List (List Int) → Int → Int → Int → List Int → List (List Int) → Option (List Int × (List (List Int)) × Int × Bool)
 | 0, _, _, _, _, _, _, _ => none
 | k + 1, x9, x11, x12, x13, x14, x255000, x255001 => if x12 > 0 then (if 0 ≤ (wrap64 (x12 - 1)) then (if (wrap64 (x12 - 1)) < (x11.length : Int) then (if 0 ≤ x13 then (if x13 < ((rd_L1 x11 (wrap64 (x12 - 1))).length : Int) then (spec_SlideOut.j3 k x9 x11 x12 x13 x14 (rd (rd_L1 x11 (wrap64 (x12 - 1))) x13) x255000 x255001) else (none)) else (none)) else (none)) else (none)) else (spec_SlideOut.j3 k x9 x11 x12 x13 x14 0 x255000 x255001)
def spec_SlideOut.j3 : Nat → List Int → List (List Int) → Int → Int → Int → Int → List Int → List (List Int) → Option (List Int × (List (List Int)) × Int × Bool)
 | 0, _, _, _, _, _, _, _, _ => none
 | k + 1, x9, x11, x12, x13, x14, x15, x255000, x255001 => if x14 = 0 then (spec_SlideOut.j4 k x9 x11 x12 x13 x14 x15 (x15 == 0) x255000 x255001) else (spec_SlideOut.j4 k x9 x11 x12 x13 x14 x15 false x255000 x255001)
def spec_SlideOut.j4 : Nat → List Int → List (List Int) → Int → Int → Int → Int → Bool → List Int → List (List Int) → Option (List Int × (List (List Int)) × Int × Bool)
 | 0, _, _, _, _, _, _, _, _, _ => none
 | k + 1, x9, x11, x12, x13, x14, x15, x75, x255000, x255001 => if x75 = true then ((spec_AddBox.f k x255000 x12).bind fun bt293 => (if bt293.2 = true then (if 0 ≤ x12 then (if x12 < (bt293.1.length : Int) then (if (wrap64 ((rd bt293.1 x12) - 1)) = x13 then ((spec_l13Tableau.f k x11 bt293.1 x9).bind fun bt298 => (some (bt298.1, bt298.2, x12, true))) else (some (([] : List Int), ([] : List (List Int)), 0, false))) else (none)) else (none)) else (some (([] : List Int), ([] : List (List Int)), 0, false)))) else (if x15 ≥ x14 then (if 0 ≤ x12 then (if x12 < (x11.length : Int) then (if 0 ≤ x13 then (if x13 < ((rd_L1 x11 x12).length : Int) then ((some (x11.set (x12 : Int).toNat ((rd_L1 x11 x12).set (x13 : Int).toNat x15) : List (List Int))).bind fun y280 => (if 0 ≤ (wrap64 (x12 - 1)) then (if (wrap64 (x12 - 1)) < (x11.length : Int) then (if x13 < ((rd_L1 y280 (wrap64 (x12 - 1))).length : Int) then (spec_SlideOut.l0 k x9 (y280.set ((wrap64 (x12 - 1)) : Int).toNat ((rd_L1 y280 (wrap64 (x12 - 1))).set (x13 : Int).toNat 0)) (wrap64 (x12 - 1)) x13 x255000 x255001) else (none)) else (none)) else (none))) else (none)) else (none)) else (none)) else (none)) else (if 0 ≤ x12 then (if x12 < (x11.length : Int) then (if 0 ≤ x13 then (if x13 < ((rd_L1 x11 x12).length : Int) then ((some (x11.set (x12 : Int).toNat ((rd_L1 x11 x12).set (x13 : Int).toNat x14) : List (List Int))).bind fun y288 => (if 0 ≤ (wrap64 (x13 - 1)) then (if (wrap64 (x13 - 1)) < ((rd_L1 y288 x12).length : Int) then (spec_SlideOut.l0 k x9 (y288.set (x12 : Int).toNat ((rd_L1 y288 x12).set ((wrap64 (x13 - 1)) : Int).toNat 0)) x12 (wrap64 (x13 - 1)) x255000 x255001) else (none)) else (none))) else (none)) else (none)) else (none)) else (none)))
end
def spec_SlideOut.f (k : Nat) (l0_0 : List Int) (l0_1 : List (List Int)) (a1 : Int) : Option (List Int × (List (List Int)) × Int × Bool) := (spec_ShapeOf.f k l0_0 l0_1).bind fun bt256 => ((spec_AddBox.f k bt256.1 a1).bind fun bt264 => (if bt256.2.2 = true then ((spec_IsTableau.f k l0_0 l0_1).bind fun t268 => (if t268 = true then (spec_SlideOut.j0 k a1 bt264.1 (!bt264.2) l0_0 l0_1) else (spec_SlideOut.j0 k a1 bt264.1 true l0_0 l0_1))) else (spec_SlideOut.j0 k a1 bt264.1 true l0_0 l0_1)))
theorem spec_SlideOut.mono_l : ∀ k, (∀ y0 y1 y2 y3 y4, LeO (spec_SlideOut.j0 k y0 y1 y2 y3 y4) (spec_SlideOut.j0 (k + 1) y0 y1 y2 y3 y4)) ∧ (∀ y0 y1 y2 y3 y4 y5, LeO (spec_SlideOut.l0 k y0 y1 y2 y3 y4 y5) (spec_SlideOut.l0 (k + 1) y0 y1 y2 y3 y4 y5)) ∧ (∀ y0 y1 y2 y3 y4 y5 y6, LeO (spec_SlideOut.j2 k y0 y1 y2 y3 y4 y5 y6) (spec_SlideOut.j2 (k + 1) y0 y1 y2 y3 y4 y5 y6)) ∧ (∀ y0 y1 y2 y3 y4 y5 y6 y7, LeO (spec_SlideOut.j3 k y0 y1 y2 y3 y4 y5 y6 y7) (spec_SlideOut.j3 (k + 1) y0 y1 y2 y3 y4 y5 y6 y7)) ∧ (∀ y0 y1 y2 y3 y4 y5 y6 y7 y8, LeO (spec_SlideOut.j4 k y0 y1 y2 y3 y4 y5 y6 y7 y8) (spec_SlideOut.j4 (k + 1) y0 y1 y2 y3 y4 y5 y6 y7 y8))
 | 0 => ⟨fun _ _ _ _ _ r h => by simp [spec_SlideOut.j0] at h, fun _ _ _ _ _ _ r h => by simp [spec_SlideOut.l0] at h, fun _ _ _ _ _ _ _ r h => by simp [spec_SlideOut.j2] at h, fun _ _ _ _ _ _ _ _ r h => by simp [spec_SlideOut.j3] at h, fun _ _ _ _ _ _ _ _ _ r h => by simp [spec_SlideOut.j4] at h⟩
 | k + 1 => by
  obtain ⟨ih0, ih1, ih2, ih3, ih4⟩ := spec_SlideOut.mono_l k
  refine ⟨?_, ?_, ?_, ?_, ?_⟩
  ·intro y0 y1 y2 y3 y4
   unfold spec_SlideOut.j0
   repeat' first
   | (with_reducible exact ih0 _ _ _ _ _)
   | (with_reducible exact ih1 _ _ _ _ _ _)
   | (with_reducible exact ih2 _ _ _ _ _ _ _)
   | (with_reducible exact ih3 _ _ _ _ _ _ _ _)
   | (with_reducible exact ih4 _ _ _ _ _ _ _ _ _)
   | (with_reducible exact spec_AddBox.mono _ _ _)
   | (with_reducible exact spec_IsTableau.mono _ _ _)
   | (with_reducible exact spec_ShapeOf.mono _ _ _)
   | (with_reducible exact spec_l13Grid.mono _ _ _)
   | (with_reducible exact spec_l13Tableau.mono _ _ _ _)
   | (with_reducible exact LeO.refl _)
   | (with_reducible exact LeO.none _)
   | (with_reducible refine LeO.ite ?_ ?_)
   | (with_reducible refine LeO.bind ?_ (fun _ => ?_))
   | exact ih0 _ _ _ _ _
   | exact ih1 _ _ _ _ _ _
   | exact ih2 _ _ _ _ _ _ _
   | exact ih3 _ _ _ _ _ _ _ _
   | exact ih4 _ _ _ _ _ _ _ _ _
   | exact spec_AddBox.mono _ _ _
   | exact spec_IsTableau.mono _ _ _
   | exact spec_ShapeOf.mono _ _ _
   | exact spec_l13Grid.mono _ _ _
   | exact spec_l13Tableau.mono _ _ _ _
   | exact LeO.none _
   | refine LeO.ite ?_ ?_
   | refine LeO.bind ?_ (fun _ => ?_)
  ·intro y0 y1 y2 y3 y4 y5
   unfold spec_SlideOut.l0
   repeat' first
   | (with_reducible exact ih0 _ _ _ _ _)
   | (with_reducible exact ih1 _ _ _ _ _ _)
   | (with_reducible exact ih2 _ _ _ _ _ _ _)
   | (with_reducible exact ih3 _ _ _ _ _ _ _ _)
   | (with_reducible exact ih4 _ _ _ _ _ _ _ _ _)
   | (with_reducible exact spec_AddBox.mono _ _ _)
   | (with_reducible exact spec_IsTableau.mono _ _ _)
   | (with_reducible exact spec_ShapeOf.mono _ _ _)
   | (with_reducible exact spec_l13Grid.mono _ _ _)
   | (with_reducible exact spec_l13Tableau.mono _ _ _ _)
   | (with_reducible exact LeO.refl _)
   | (with_reducible exact LeO.none _)
   | (with_reducible refine LeO.ite ?_ ?_)
   | (with_reducible refine LeO.bind ?_ (fun _ => ?_))
   | exact ih0 _ _ _ _ _
   | exact ih1 _ _ _ _ _ _
   | exact ih2 _ _ _ _ _ _ _
   | exact ih3 _ _ _ _ _ _ _ _
   | exact ih4 _ _ _ _ _ _ _ _ _
   | exact spec_AddBox.mono _ _ _
   | exact spec_IsTableau.mono _ _ _
   | exact spec_ShapeOf.mono _ _ _
   | exact spec_l13Grid.mono _ _ _
   | exact spec_l13Tableau.mono _ _ _ _
   | exact LeO.none _
   | refine LeO.ite ?_ ?_
   | refine LeO.bind ?_ (fun _ => ?_)
  ·intro y0 y1 y2 y3 y4 y5 y6
   unfold spec_SlideOut.j2
   repeat' first
   | (with_reducible exact ih0 _ _ _ _ _)
   | (with_reducible exact ih1 _ _ _ _ _ _)
   | (with_reducible exact ih2 _ _ _ _ _ _ _)
   | (with_reducible exact ih3 _ _ _ _ _ _ _ _)
   | (with_reducible exact ih4 _ _ _ _ _ _ _ _ _)
   | (with_reducible exact spec_AddBox.mono _ _ _)
   | (with_reducible exact spec_IsTableau.mono _ _ _)
   | (with_reducible exact spec_ShapeOf.mono _ _ _)
   | (with_reducible exact spec_l13Grid.mono _ _ _)
   | (with_reducible exact spec_l13Tableau.mono _ _ _ _)
   | (with_reducible exact LeO.refl _)
   | (with_reducible exact LeO.none _)
   | (with_reducible refine LeO.ite ?_ ?_)
   | (with_reducible refine LeO.bind ?_ (fun _ => ?_))
   | exact ih0 _ _ _ _ _
   | exact ih1 _ _ _ _ _ _
   | exact ih2 _ _ _ _ _ _ _
   | exact ih3 _ _ _ _ _ _ _ _
   | exact ih4 _ _ _ _ _ _ _ _ _
   | exact spec_AddBox.mono _ _ _
   | exact spec_IsTableau.mono _ _ _
   | exact spec_ShapeOf.mono _ _ _
   | exact spec_l13Grid.mono _ _ _
   | exact spec_l13Tableau.mono _ _ _ _
   | exact LeO.none _
   | refine LeO.ite ?_ ?_
   | refine LeO.bind ?_ (fun _ => ?_)
  ·intro y0 y1 y2 y3 y4 y5 y6 y7
   unfold spec_SlideOut.j3
   repeat' first
   | (with_reducible exact ih0 _ _ _ _ _)
   | (with_reducible exact ih1 _ _ _ _ _ _)
   | (with_reducible exact ih2 _ _ _ _ _ _ _)
   | (with_reducible exact ih3 _ _ _ _ _ _ _ _)
   | (with_reducible exact ih4 _ _ _ _ _ _ _ _ _)
   | (with_reducible exact spec_AddBox.mono _ _ _)
   | (with_reducible exact spec_IsTableau.mono _ _ _)
   | (with_reducible exact spec_ShapeOf.mono _ _ _)
   | (with_reducible exact spec_l13Grid.mono _ _ _)
   | (with_reducible exact spec_l13Tableau.mono _ _ _ _)
   | (with_reducible exact LeO.refl _)
   | (with_reducible exact LeO.none _)
   | (with_reducible refine LeO.ite ?_ ?_)
   | (with_reducible refine LeO.bind ?_ (fun _ => ?_))
   | exact ih0 _ _ _ _ _
   | exact ih1 _ _ _ _ _ _
   | exact ih2 _ _ _ _ _ _ _
   | exact ih3 _ _ _ _ _ _ _ _
   | exact ih4 _ _ _ _ _ _ _ _ _
   | exact spec_AddBox.mono _ _ _
   | exact spec_IsTableau.mono _ _ _
   | exact spec_ShapeOf.mono _ _ _
   | exact spec_l13Grid.mono _ _ _
   | exact spec_l13Tableau.mono _ _ _ _
   | exact LeO.none _
   | refine LeO.ite ?_ ?_
   | refine LeO.bind ?_ (fun _ => ?_)
  ·intro y0 y1 y2 y3 y4 y5 y6 y7 y8
   unfold spec_SlideOut.j4
   repeat' first
   | (with_reducible exact ih0 _ _ _ _ _)
   | (with_reducible exact ih1 _ _ _ _ _ _)
   | (with_reducible exact ih2 _ _ _ _ _ _ _)
   | (with_reducible exact ih3 _ _ _ _ _ _ _ _)
   | (with_reducible exact ih4 _ _ _ _ _ _ _ _ _)
   | (with_reducible exact spec_AddBox.mono _ _ _)
   | (with_reducible exact spec_IsTableau.mono _ _ _)
   | (with_reducible exact spec_ShapeOf.mono _ _ _)
   | (with_reducible exact spec_l13Grid.mono _ _ _)
   | (with_reducible exact spec_l13Tableau.mono _ _ _ _)
   | (with_reducible exact LeO.refl _)
   | (with_reducible exact LeO.none _)
   | (with_reducible refine LeO.ite ?_ ?_)
   | (with_reducible refine LeO.bind ?_ (fun _ => ?_))
   | exact ih0 _ _ _ _ _
   | exact ih1 _ _ _ _ _ _
   | exact ih2 _ _ _ _ _ _ _
   | exact ih3 _ _ _ _ _ _ _ _
   | exact ih4 _ _ _ _ _ _ _ _ _
   | exact spec_AddBox.mono _ _ _
   | exact spec_IsTableau.mono _ _ _
   | exact spec_ShapeOf.mono _ _ _
   | exact spec_l13Grid.mono _ _ _
   | exact spec_l13Tableau.mono _ _ _ _
   | exact LeO.none _
   | refine LeO.ite ?_ ?_
   | refine LeO.bind ?_ (fun _ => ?_)
theorem spec_SlideOut.mono : ∀ a0 a1 a2 k, LeO (spec_SlideOut.f k a0 a1 a2) (spec_SlideOut.f (k + 1) a0 a1 a2) := by
 intro a0 a1 a2 k
 obtain ⟨ih0, ih1, ih2, ih3, ih4⟩ := spec_SlideOut.mono_l k
 unfold spec_SlideOut.f
 repeat' first
   | (with_reducible exact ih0 _ _ _ _ _)
   | (with_reducible exact ih1 _ _ _ _ _ _)
   | (with_reducible exact ih2 _ _ _ _ _ _ _)
   | (with_reducible exact ih3 _ _ _ _ _ _ _ _)
   | (with_reducible exact ih4 _ _ _ _ _ _ _ _ _)
   | (with_reducible exact spec_AddBox.mono _ _ _)
   | (with_reducible exact spec_IsTableau.mono _ _ _)
   | (with_reducible exact spec_ShapeOf.mono _ _ _)
   | (with_reducible exact spec_l13Grid.mono _ _ _)
   | (with_reducible exact spec_l13Tableau.mono _ _ _ _)
   | (with_reducible exact LeO.refl _)
   | (with_reducible exact LeO.none _)
   | (with_reducible refine LeO.ite ?_ ?_)
   | (with_reducible refine LeO.bind ?_ (fun _ => ?_))
   | exact ih0 _ _ _ _ _
   | exact ih1 _ _ _ _ _ _
   | exact ih2 _ _ _ _ _ _ _
   | exact ih3 _ _ _ _ _ _ _ _
   | exact ih4 _ _ _ _ _ _ _ _ _
   | exact spec_AddBox.mono _ _ _
   | exact spec_IsTableau.mono _ _ _
   | exact spec_ShapeOf.mono _ _ _
   | exact spec_l13Grid.mono _ _ _
   | exact spec_l13Tableau.mono _ _ _ _
   | exact LeO.none _
   | refine LeO.ite ?_ ?_
   | refine LeO.bind ?_ (fun _ => ?_)
set_option maxHeartbeats 8000000 in
set_option maxRecDepth 100000 in
theorem spec_SlideOut.calls (k : Nat) (A0_0 : Option Addr) (c0_0 : Nat) (l0_0 : List Int) (A0_1 : Option Addr) (c0_1 : Nat) (l0_1 : List (List Int)) (a1 : Int) (r1 : List Int) (r2 : List (List Int)) (r3 : Int) (r4 : Bool) (w : World) (hr0_0 : Kd.C (Kd.int .i64) w A0_0 l0_0.length l0_0) (hc0_0 : l0_0.length ≤ c0_0) (hr0_1 : Kd.C (Kd.slice 3 (Kd.int .i64)) w A0_1 l0_1.length l0_1) (hc0_1 : l0_1.length ≤ c0_1) (h : spec_SlideOut.f k l0_0 l0_1 a1 = some (r1, r2, r3, r4)) :
  Calls Try.prog 24 #[.agg #[.slice A0_0 l0_0.length c0_0, .slice A0_1 l0_1.length c0_1], .int .i64 a1] w fun e w' => ∃ v0_ v1_ : Value, e = .returned (.tuple #[.agg #[v0_, v1_], .int .i64 r3, .bool r4]) ∧ Kd.R (Kd.int .i64) 3 w' w.heap.size (fun _ => True) v0_ r1 ∧ Kd.S (Kd.slice 3 (Kd.int .i64)) 22 w' w.heap.size (fun k_ => some k_ ≠ (v0_ : Value).ownBlock) v1_ r2 ∧ Below w.heap.size w w' := by
 have hu28 := Try.underlying28
 have hu61 := Try.underlying61
 have HR0_0 := Aside0.mk hr0_0
 have HC0_0 := Aside0.mk hc0_0
 clear hr0_0 hc0_0
 have HR0_1 := Aside0.mk hr0_1
 have HC0_1 := Aside0.mk hc0_1
 clear hr0_1 hc0_1
 have HB := Aside0.mk (Below.refl w.heap.size w)
 have H : ((spec_ShapeOf.f k l0_0 l0_1).bind fun bt256 => ((spec_AddBox.f k bt256.1 a1).bind fun bt264 => (if bt256.2.2 = true then ((spec_IsTableau.f k l0_0 l0_1).bind fun t268 => (if t268 = true then (spec_SlideOut.j0 k a1 bt264.1 (!bt264.2) l0_0 l0_1) else (spec_SlideOut.j0 k a1 bt264.1 true l0_0 l0_1))) else (spec_SlideOut.j0 k a1 bt264.1 true l0_0 l0_1)))) = some (r1, r2, r3, r4) := h
 clear h
 replace H := Option.bind_eq_some_iff.mp H
 obtain ⟨⟨t256, t259, t262⟩, A30, H⟩ := H
 replace H : ((spec_AddBox.f k t256 a1).bind fun bt264 => (if t262 = true then ((spec_IsTableau.f k l0_0 l0_1).bind fun t268 => (if t268 = true then (spec_SlideOut.j0 k a1 bt264.1 (!bt264.2) l0_0 l0_1) else (spec_SlideOut.j0 k a1 bt264.1 true l0_0 l0_1))) else (spec_SlideOut.j0 k a1 bt264.1 true l0_0 l0_1))) = some (r1, r2, r3, r4) := H
 have A3 := Aside0.mk A30
 clear A30
 replace H := Option.bind_eq_some_iff.mp H
 obtain ⟨⟨t264, t265⟩, A40, H⟩ := H
 replace H : (if t262 = true then ((spec_IsTableau.f k l0_0 l0_1).bind fun t268 => (if t268 = true then (spec_SlideOut.j0 k a1 t264 (!t265) l0_0 l0_1) else (spec_SlideOut.j0 k a1 t264 true l0_0 l0_1))) else (spec_SlideOut.j0 k a1 t264 true l0_0 l0_1)) = some (r1, r2, r3, r4) := H
 have A4 := Aside0.mk A40
 clear A40
 have HC5 := Aside0.mk H
 clear H
 go_enter Try.func24, Try.ntmps24
 go_upto_region 3 with (first | ((with_reducible refine gate_dst (N := 2) rfl ?_); refine zX (N := 2) (cs := #[.slice A0_0 l0_0.length c0_0, .slice A0_1 l0_1.length c0_1]) (t := 28) ?_; intro gb254 hg w6 hbox hb; have n0_ := Aside0.mk (below_step (by repeat (first | (with_reducible first | exact HB.out | apply below_alloc | apply pw_below_drewN | apply below_drew1) | exact HB.out)) hb); have n1_ := Aside0.mk (hbox); have n2_ := Aside0.mk ((by rw [hg]; exact (below_size (by repeat (first | (with_reducible first | exact HB.out | apply below_alloc | apply pw_below_drewN | apply below_drew1) | exact HB.out))) : w.heap.size ≤ gb254)); have n3_ := Aside0.mk ((by rw [hg]; exact (below_size (by repeat (first | (with_reducible first | exact HB.out | apply below_alloc | apply pw_below_drewN | apply below_drew1) | exact HB.out))) : w.heap.size ≤ gb254)); clear HB; have HB := n0_; have BK254 := n1_; have GW254 := n2_; have GE254 := n3_; clear n0_ n1_ n2_ n3_; clear hb hbox hg) | ((with_reducible refine gate_dst (N := 4) rfl ?_); refine zX (N := 4) (cs := #[.slice none 0 0, .slice none 0 0]) (t := 28) ?_; intro gb255 hg w7 hbox hb; have n0_ := Aside0.mk (blk_below (g := gb254) (o := .cells #[.slice A0_0 l0_0.length c0_0, .slice A0_1 l0_1.length c0_1] 28 (0, 0)) (by (with_reducible repeat (first | refine blk_drewN ?_ _ | refine blk_drew ?_ | refine blk_alloc ?_ _)); exact BK254.out) hb); have n1_ := Aside0.mk (below_step (by repeat (first | (with_reducible first | exact HB.out | apply below_alloc | apply pw_below_drewN | apply below_drew1 | refine below_set ?_ GE254.out) | exact HB.out)) hb); have n2_ := Aside0.mk (hbox); have n3_ := Aside0.mk ((by rw [hg]; exact (below_size (by repeat (first | (with_reducible first | exact HB.out | apply below_alloc | apply pw_below_drewN | apply below_drew1 | refine below_set ?_ GE254.out) | exact HB.out))) : w.heap.size ≤ gb255)); have n4_ := Aside0.mk ((by rw [hg]; exact (below_size (by repeat (first | (with_reducible first | exact HB.out | apply below_alloc | apply pw_below_drewN | apply below_drew1 | refine below_set ?_ GE254.out) | exact HB.out))) : w.heap.size ≤ gb255)); have n5_ := Aside0.mk ((by rw [hg]; exact Nat.ne_of_lt (blk_lt (g := gb254) (o := .cells #[.slice A0_0 l0_0.length c0_0, .slice A0_1 l0_1.length c0_1] 28 (0, 0)) (by (with_reducible repeat (first | refine blk_drewN ?_ _ | refine blk_drew ?_ | refine blk_alloc ?_ _)); exact BK254.out)) : gb254 ≠ gb255)); have n6_ := Aside0.mk ((by rw [hg]; exact Nat.ne_of_gt (blk_lt (g := gb254) (o := .cells #[.slice A0_0 l0_0.length c0_0, .slice A0_1 l0_1.length c0_1] 28 (0, 0)) (by (with_reducible repeat (first | refine blk_drewN ?_ _ | refine blk_drew ?_ | refine blk_alloc ?_ _)); exact BK254.out)) : gb255 ≠ gb254)); clear BK254; clear HB; have BK254 := n0_; have HB := n1_; have BK255 := n2_; have GW255 := n3_; have GE255 := n4_; have NB254_255 := n5_; have NB255_254 := n6_; clear n0_ n1_ n2_ n3_ n4_ n5_ n6_; clear hb hbox hg; have hnb8 := NB254_255.out; have hnc8 := NB255_254.out; have hcz9_0 : w7.cell? ⟨gb254, 0, none⟩ = some (.slice A0_0 l0_0.length c0_0) := (blk_cell BK254.out 0).trans rfl; have hcz9_1 : w7.cell? ⟨gb254, 1, none⟩ = some (.slice A0_1 l0_1.length c0_1) := (blk_cell BK254.out 1).trans rfl; have hfz9_0 := blk_frozen BK254.out 0; have hfz9_1 := blk_frozen BK254.out 1) | ((with_reducible refine gate_callee (f := 53) rfl ?_); refine zG (some 20) Try.func53 #[.agg #[.slice A0_0 l0_0.length c0_0, .slice A0_1 l0_1.length c0_1]] ?_; (with_reducible refine (spec_ShapeOf.calls k _ _ l0_0 _ _ l0_1 t256 t259 t262 _ ?side1 ?side2 ?side3 ?side4 A3.out).mono ?_); (case side1 => repeat (first | exact (Kd.C_below HR0_0.out HB.out) | (with_reducible refine Kd.C_alloc ?_ _) | (with_reducible refine Kd.C_drewN ?_ _) | (with_reducible refine Kd.C_drew ?_))); (case side2 => exact HC0_0.out); (case side3 => repeat (first | exact (Kd.C_below HR0_1.out HB.out) | (with_reducible refine Kd.C_alloc ?_ _) | (with_reducible refine Kd.C_drewN ?_ _) | (with_reducible refine Kd.C_drew ?_))); (case side4 => exact HC0_1.out); rintro e w10 ⟨v257, v260, rfl, ho0, ho1, hb⟩; refine ⟨_, rfl, ?_⟩; have n0_ := Aside0.mk (Kd.R_lower ho0 (below_size (by repeat (first | (with_reducible first | exact HB.out | apply below_alloc | apply pw_below_drewN | apply below_drew1 | refine below_set ?_ GE254.out | refine below_set ?_ GE255.out) | exact HB.out)))); have n1_ := Aside0.mk (Kd.R_lower ho1 (below_size (by repeat (first | (with_reducible first | exact HB.out | apply below_alloc | apply pw_below_drewN | apply below_drew1 | refine below_set ?_ GE254.out | refine below_set ?_ GE255.out) | exact HB.out)))); have n2_ := Aside0.mk (blk_below (g := gb254) (o := .cells #[.slice A0_0 l0_0.length c0_0, .slice A0_1 l0_1.length c0_1] 28 (0, 0)) (by (with_reducible repeat (first | refine blk_drewN ?_ _ | refine blk_drew ?_ | refine blk_alloc ?_ _)); exact BK254.out) hb); have n3_ := Aside0.mk (blk_below (g := gb255) (o := .cells #[.slice none 0 0, .slice none 0 0] 28 (0, 0)) (by (with_reducible repeat (first | refine blk_drewN ?_ _ | refine blk_drew ?_ | refine blk_alloc ?_ _)); exact BK255.out) hb); have n4_ := Aside0.mk (below_step (by repeat (first | (with_reducible first | exact HB.out | apply below_alloc | apply pw_below_drewN | apply below_drew1 | refine below_set ?_ GE254.out | refine below_set ?_ GE255.out) | exact HB.out)) hb); clear BK254; clear BK255; clear HB; have HO258 := n0_; have HO261 := n1_; have BK254 := n2_; have BK255 := n3_; have HB := n4_; clear n0_ n1_ n2_ n3_ n4_; (try clear hb); (try clear hb2); (try clear hk); (try clear hi); (try clear ho0); (try clear ho1)) | ((with_reducible refine gate_dst (N := 7) rfl ?_); refine zX (N := 7) (cs := #[.slice none 0 0, .slice none 0 0]) (t := 61) ?_; intro gb263 hg w11 hbox hb; have n0_ := Aside0.mk (Kd.R_below (by (with_reducible repeat (first | apply Kd.R_alloc | apply Kd.R_drewN | apply Kd.R_drew)); exact HO258.out) hb); have n1_ := Aside0.mk (Kd.R_below (by (with_reducible repeat (first | apply Kd.R_alloc | apply Kd.R_drewN | apply Kd.R_drew)); exact HO261.out) hb); have n2_ := Aside0.mk (blk_below (g := gb254) (o := .cells #[.slice A0_0 l0_0.length c0_0, .slice A0_1 l0_1.length c0_1] 28 (0, 0)) (by (with_reducible repeat (first | refine blk_drewN ?_ _ | refine blk_drew ?_ | refine blk_alloc ?_ _)); exact BK254.out) hb); have n3_ := Aside0.mk (blk_below (g := gb255) (o := .cells #[.slice none 0 0, .slice none 0 0] 28 (0, 0)) (by (with_reducible repeat (first | refine blk_drewN ?_ _ | refine blk_drew ?_ | refine blk_alloc ?_ _)); exact BK255.out) hb); have n4_ := Aside0.mk (below_step (by repeat (first | (with_reducible first | exact HB.out | apply below_alloc | apply pw_below_drewN | apply below_drew1 | refine below_set ?_ GE254.out | refine below_set ?_ GE255.out) | exact HB.out)) hb); have n5_ := Aside0.mk (hbox); have n6_ := Aside0.mk ((by rw [hg]; exact (below_size (by repeat (first | (with_reducible first | exact HB.out | apply below_alloc | apply pw_below_drewN | apply below_drew1 | refine below_set ?_ GE254.out | refine below_set ?_ GE255.out) | exact HB.out))) : w.heap.size ≤ gb263)); have n7_ := Aside0.mk ((by rw [hg]; exact (below_size (by repeat (first | (with_reducible first | exact HB.out | apply below_alloc | apply pw_below_drewN | apply below_drew1 | refine below_set ?_ GE254.out | refine below_set ?_ GE255.out) | exact HB.out))) : w.heap.size ≤ gb263)); have n8_ := Aside0.mk ((by rw [hg]; exact Nat.ne_of_lt (blk_lt (g := gb254) (o := .cells #[.slice A0_0 l0_0.length c0_0, .slice A0_1 l0_1.length c0_1] 28 (0, 0)) (by (with_reducible repeat (first | refine blk_drewN ?_ _ | refine blk_drew ?_ | refine blk_alloc ?_ _)); exact BK254.out)) : gb254 ≠ gb263)); have n9_ := Aside0.mk ((by rw [hg]; exact Nat.ne_of_gt (blk_lt (g := gb254) (o := .cells #[.slice A0_0 l0_0.length c0_0, .slice A0_1 l0_1.length c0_1] 28 (0, 0)) (by (with_reducible repeat (first | refine blk_drewN ?_ _ | refine blk_drew ?_ | refine blk_alloc ?_ _)); exact BK254.out)) : gb263 ≠ gb254)); have n10_ := Aside0.mk ((by rw [hg]; exact Nat.ne_of_lt (blk_lt (g := gb255) (o := .cells #[.slice none 0 0, .slice none 0 0] 28 (0, 0)) (by (with_reducible repeat (first | refine blk_drewN ?_ _ | refine blk_drew ?_ | refine blk_alloc ?_ _)); exact BK255.out)) : gb255 ≠ gb263)); have n11_ := Aside0.mk ((by rw [hg]; exact Nat.ne_of_gt (blk_lt (g := gb255) (o := .cells #[.slice none 0 0, .slice none 0 0] 28 (0, 0)) (by (with_reducible repeat (first | refine blk_drewN ?_ _ | refine blk_drew ?_ | refine blk_alloc ?_ _)); exact BK255.out)) : gb263 ≠ gb255)); clear HO258; clear HO261; clear BK254; clear BK255; clear HB; have HO258 := n0_; have HO261 := n1_; have BK254 := n2_; have BK255 := n3_; have HB := n4_; have BK263 := n5_; have GW263 := n6_; have GE263 := n7_; have NB254_263 := n8_; have NB263_254 := n9_; have NB255_263 := n10_; have NB263_255 := n11_; clear n0_ n1_ n2_ n3_ n4_ n5_ n6_ n7_ n8_ n9_ n10_ n11_; clear hb hbox hg; obtain ⟨Ao12, co12, eo12⟩ := Kd.R_slice HO258.out; subst eo12; have hnb13 := NB263_254.out; have hnc13 := NB254_263.out; have hnb14 := NB263_255.out; have hnc14 := NB255_263.out; have hcz15_0 : w11.cell? ⟨gb263, 0, none⟩ = some (.slice none 0 0) := (blk_cell BK263.out 0).trans rfl; have hcz15_1 : w11.cell? ⟨gb263, 1, none⟩ = some (.slice none 0 0) := (blk_cell BK263.out 1).trans rfl; have hfz15_0 := blk_frozen BK263.out 0; have hfz15_1 := blk_frozen BK263.out 1; obtain ⟨Ao16, co16, eo16⟩ := Kd.R_slice HO261.out; subst eo16) | ((with_reducible refine gate_callee (f := 54) rfl ?_); refine zG (some 27) Try.func54 #[.slice Ao12 t256.length co12, .int .i64 a1] ?_; (with_reducible refine (spec_AddBox.calls k _ _ t256 a1 t264 t265 _ ?side1 ?side2 A4.out).mono ?_); (case side1 => refine (Kd.R_reads' (e := 3) (base := w.heap.size) (ok := fun k_ => some k_ ≠ (.slice Ao16 t259.length co16 : Value).ownBlock) (n := t256.length) (c := co12) ?_).2.2; exact (by (with_reducible repeat (first | apply Kd.R_alloc | apply Kd.R_drewN | apply Kd.R_drew)); exact (Kd.R_mono (Kd.R_far (p := ⟨gb263, 1, none⟩) (Kd.R_far (p := ⟨gb263, 0, none⟩) (Kd.R_types HO258.out BK263.out (by decide)) (fun _ hk => hk.2) (.slice Ao12 t256.length co12)) (fun _ hk => hk.2) (.slice Ao16 t259.length co16)) (fun _ h_ => h_.1)))); (case side2 => exact (Kd.R_reads' HO258.out).2.1); rintro e w17 ⟨v266, rfl, ho0, hb⟩; refine ⟨_, rfl, ?_⟩; have n0_ := Aside0.mk (Kd.R_elder' (by (with_reducible repeat (first | apply Kd.R_alloc | apply Kd.R_drewN | apply Kd.R_drew)); exact (Kd.R_mono (Kd.R_far (p := ⟨gb263, 1, none⟩) (Kd.R_far (p := ⟨gb263, 0, none⟩) (Kd.R_types HO258.out BK263.out (by decide)) (fun _ hk => hk.2) (.slice Ao12 t256.length co12)) (fun _ hk => hk.2) (.slice Ao16 t259.length co16)) (fun _ h_ => h_.1))) (Kd.R_base ho0) hb); have n1_ := Aside0.mk (Kd.R_elder' (by (with_reducible repeat (first | apply Kd.R_alloc | apply Kd.R_drewN | apply Kd.R_drew)); exact (Kd.R_mono (Kd.R_far (p := ⟨gb263, 1, none⟩) (Kd.R_far (p := ⟨gb263, 0, none⟩) (Kd.R_types HO261.out BK263.out (by decide)) (fun _ hk => hk.2) (.slice Ao12 t256.length co12)) (fun _ hk => hk.2) (.slice Ao16 t259.length co16)) (fun _ h_ => h_.1))) (Kd.R_base ho0) hb); have n2_ := Aside0.mk (Kd.R_lower (Kd.R_new' (Kd.R_new' ho0 (Kd.R_lt (by (with_reducible repeat (first | apply Kd.R_alloc | apply Kd.R_drewN | apply Kd.R_drew)); exact (Kd.R_mono (Kd.R_far (p := ⟨gb263, 1, none⟩) (Kd.R_far (p := ⟨gb263, 0, none⟩) (Kd.R_types HO258.out BK263.out (by decide)) (fun _ hk => hk.2) (.slice Ao12 t256.length co12)) (fun _ hk => hk.2) (.slice Ao16 t259.length co16)) (fun _ h_ => h_.1))))) (Kd.R_lt (by (with_reducible repeat (first | apply Kd.R_alloc | apply Kd.R_drewN | apply Kd.R_drew)); exact (Kd.R_mono (Kd.R_far (p := ⟨gb263, 1, none⟩) (Kd.R_far (p := ⟨gb263, 0, none⟩) (Kd.R_types HO261.out BK263.out (by decide)) (fun _ hk => hk.2) (.slice Ao12 t256.length co12)) (fun _ hk => hk.2) (.slice Ao16 t259.length co16)) (fun _ h_ => h_.1))))) (below_size (by repeat (first | (with_reducible first | exact HB.out | apply below_alloc | apply pw_below_drewN | apply below_drew1 | refine below_set ?_ GE254.out | refine below_set ?_ GE255.out | refine below_set ?_ GE263.out) | exact HB.out)))); have n3_ := Aside0.mk (blk_below (g := gb254) (o := .cells #[.slice A0_0 l0_0.length c0_0, .slice A0_1 l0_1.length c0_1] 28 (0, 0)) (by (with_reducible repeat (first | refine blk_drewN ?_ _ | refine blk_drew ?_ | refine blk_alloc ?_ _)); refine blk_far ?_ NB254_263.out _; (with_reducible repeat (first | refine blk_drewN ?_ _ | refine blk_drew ?_ | refine blk_alloc ?_ _)); refine blk_far ?_ NB254_263.out _; (with_reducible repeat (first | refine blk_drewN ?_ _ | refine blk_drew ?_ | refine blk_alloc ?_ _)); exact BK254.out) hb); have n4_ := Aside0.mk (blk_below (g := gb255) (o := .cells #[.slice none 0 0, .slice none 0 0] 28 (0, 0)) (by (with_reducible repeat (first | refine blk_drewN ?_ _ | refine blk_drew ?_ | refine blk_alloc ?_ _)); refine blk_far ?_ NB255_263.out _; (with_reducible repeat (first | refine blk_drewN ?_ _ | refine blk_drew ?_ | refine blk_alloc ?_ _)); refine blk_far ?_ NB255_263.out _; (with_reducible repeat (first | refine blk_drewN ?_ _ | refine blk_drew ?_ | refine blk_alloc ?_ _)); exact BK255.out) hb); have n5_ := Aside0.mk (blk_below (g := gb263) (o := .cells #[.slice Ao12 t256.length co12, .slice Ao16 t259.length co16] 61 (0, 0)) (by (with_reducible repeat (first | refine blk_drewN ?_ _ | refine blk_drew ?_ | refine blk_alloc ?_ _)); refine blk_put (cs := #[.slice Ao12 t256.length co12, .slice none 0 0]) ?_ 1 _ rfl; (with_reducible repeat (first | refine blk_drewN ?_ _ | refine blk_drew ?_ | refine blk_alloc ?_ _)); refine blk_put (cs := #[.slice none 0 0, .slice none 0 0]) ?_ 0 _ rfl; (with_reducible repeat (first | refine blk_drewN ?_ _ | refine blk_drew ?_ | refine blk_alloc ?_ _)); exact BK263.out) hb); have n6_ := Aside0.mk (below_step (by repeat (first | (with_reducible first | exact HB.out | apply below_alloc | apply pw_below_drewN | apply below_drew1 | refine below_set ?_ GE254.out | refine below_set ?_ GE255.out | refine below_set ?_ GE263.out) | exact HB.out)) hb); clear HO258; clear HO261; clear BK254; clear BK255; clear BK263; clear HB; have HO258 := n0_; have HO261 := n1_; have HO267 := n2_; have BK254 := n3_; have BK255 := n4_; have BK263 := n5_; have HB := n6_; clear n0_ n1_ n2_ n3_ n4_ n5_ n6_; (try clear hb); (try clear hb2); (try clear hk); (try clear hi); (try clear ho0)))
 (try simp only [Act.put, List.setIfInBounds_toArray, List.set_cons_zero, List.set_cons_succ])
 go_cut [40] (fun v40 wc => ∃ (kq : Nat) (x40_4 : Bool), v40 = .bool x40_4 ∧ Aside0 (spec_SlideOut.j0 kq a1 t264 x40_4 l0_0 l0_1 = some (r1, r2, r3, r4)) ∧ Aside0 (kq ≤ k) ∧ Aside0 (Kd.R (Kd.int .i64) 3 wc w.heap.size (fun k_ => some k_ ≠ ((.slice Ao12 t256.length co12) : Value).ownBlock ∧ some k_ ≠ ((.slice Ao16 t259.length co16) : Value).ownBlock) v266 t264) ∧ Aside0 (Kd.R (Kd.int .i64) 3 wc w.heap.size (fun k_ => some k_ ≠ (v266 : Value).ownBlock ∧ some k_ ≠ ((.slice Ao16 t259.length co16) : Value).ownBlock) (.slice Ao12 t256.length co12) t256) ∧ Aside0 (Kd.R (Kd.int .i64) 3 wc w.heap.size (fun k_ => some k_ ≠ (v266 : Value).ownBlock ∧ some k_ ≠ ((.slice Ao12 t256.length co12) : Value).ownBlock) (.slice Ao16 t259.length co16) t259) ∧ Aside0 (wc.heap[gb254]? = some (.cells #[(.slice A0_0 l0_0.length c0_0), (.slice A0_1 l0_1.length c0_1)] 28 (0, 0))) ∧ Aside0 (wc.heap[gb255]? = some (.cells #[(.slice none 0 0), (.slice none 0 0)] 28 (0, 0))) ∧ Aside0 (wc.heap[gb263]? = some (.cells #[(.slice Ao12 t256.length co12), (.slice Ao16 t259.length co16)] 61 (0, 0))) ∧ Aside0 (Below w.heap.size w wc))
 case first =>
  have H := HC5.out
  clear HC5
  by_cases c18 : t262 = true
  ·subst c18
   have H1 : ((spec_IsTableau.f k l0_0 l0_1).bind fun t268 => (if t268 = true then (spec_SlideOut.j0 k a1 t264 (!t265) l0_0 l0_1) else (spec_SlideOut.j0 k a1 t264 true l0_0 l0_1))) = some (r1, r2, r3, r4) := by rw [if_pos rfl] at H; exact H
   clear H
   have H := H1
   clear H1
   replace H := Option.bind_eq_some_iff.mp H
   obtain ⟨t268, A190, H⟩ := H
   replace H : (if t268 = true then (spec_SlideOut.j0 k a1 t264 (!t265) l0_0 l0_1) else (spec_SlideOut.j0 k a1 t264 true l0_0 l0_1)) = some (r1, r2, r3, r4) := H
   have A19 := Aside0.mk A190
   clear A190
   by_cases c20 : t268 = true
   ·subst c20
    have H1 : (spec_SlideOut.j0 k a1 t264 (!t265) l0_0 l0_1) = some (r1, r2, r3, r4) := by rw [if_pos rfl] at H; exact H
    clear H
    have H := H1
    clear H1
    have H' := Aside0.mk H
    clear H
    have hnb21 := NB254_255.out
    have hnc21 := NB255_254.out
    have hnb22 := NB254_263.out
    have hnc22 := NB263_254.out
    have hcz23_0 : w17.cell? ⟨gb254, 0, none⟩ = some (.slice A0_0 l0_0.length c0_0) := (blk_cell BK254.out 0).trans rfl
    have hcz23_1 : w17.cell? ⟨gb254, 1, none⟩ = some (.slice A0_1 l0_1.length c0_1) := (blk_cell BK254.out 1).trans rfl
    have hfz23_0 := blk_frozen BK254.out 0
    have hfz23_1 := blk_frozen BK254.out 1
    go_wp2_with (first | (go_at_call 34; (with_reducible refine (spec_IsTableau.calls k _ _ l0_0 _ _ l0_1 true _ ?side1 ?side2 ?side3 ?side4 A19.out).mono ?_); (case side1 => repeat (first | exact (Kd.C_below HR0_0.out HB.out) | (with_reducible refine Kd.C_alloc ?_ _) | (with_reducible refine Kd.C_drewN ?_ _) | (with_reducible refine Kd.C_drew ?_))); (case side2 => exact HC0_0.out); (case side3 => repeat (first | exact (Kd.C_below HR0_1.out HB.out) | (with_reducible refine Kd.C_alloc ?_ _) | (with_reducible refine Kd.C_drewN ?_ _) | (with_reducible refine Kd.C_drew ?_))); (case side4 => exact HC0_1.out); rintro e w24 ⟨rfl, hb⟩; have n0_ := Aside0.mk (Kd.R_below (by (with_reducible repeat (first | apply Kd.R_alloc | apply Kd.R_drewN | apply Kd.R_drew)); exact HO258.out) hb); have n1_ := Aside0.mk (Kd.R_below (by (with_reducible repeat (first | apply Kd.R_alloc | apply Kd.R_drewN | apply Kd.R_drew)); exact HO261.out) hb); have n2_ := Aside0.mk (Kd.R_below (by (with_reducible repeat (first | apply Kd.R_alloc | apply Kd.R_drewN | apply Kd.R_drew)); exact HO267.out) hb); have n3_ := Aside0.mk (blk_below (g := gb254) (o := .cells #[.slice A0_0 l0_0.length c0_0, .slice A0_1 l0_1.length c0_1] 28 (0, 0)) (by (with_reducible repeat (first | refine blk_drewN ?_ _ | refine blk_drew ?_ | refine blk_alloc ?_ _)); exact BK254.out) hb); have n4_ := Aside0.mk (blk_below (g := gb255) (o := .cells #[.slice none 0 0, .slice none 0 0] 28 (0, 0)) (by (with_reducible repeat (first | refine blk_drewN ?_ _ | refine blk_drew ?_ | refine blk_alloc ?_ _)); exact BK255.out) hb); have n5_ := Aside0.mk (blk_below (g := gb263) (o := .cells #[.slice Ao12 t256.length co12, .slice Ao16 t259.length co16] 61 (0, 0)) (by (with_reducible repeat (first | refine blk_drewN ?_ _ | refine blk_drew ?_ | refine blk_alloc ?_ _)); exact BK263.out) hb); have n6_ := Aside0.mk (below_step (by repeat (first | (with_reducible first | exact HB.out | apply below_alloc | apply pw_below_drewN | apply below_drew1 | refine below_set ?_ GE254.out | refine below_set ?_ GE255.out | refine below_set ?_ GE263.out) | exact HB.out)) hb); clear HO258; clear HO261; clear HO267; clear BK254; clear BK255; clear BK263; clear HB; have HO258 := n0_; have HO261 := n1_; have HO267 := n2_; have BK254 := n3_; have BK255 := n4_; have BK263 := n5_; have HB := n6_; clear n0_ n1_ n2_ n3_ n4_ n5_ n6_; (try clear hb); (try clear hb2); (try clear hk); (try clear hi)))
    go_meet
    case rel => exact ⟨_, (!t265), (by first | rfl | (simp; done) | (simp [*]; done)), H', ⟨by first | omega | exact Nat.le_refl _⟩, ⟨by (with_reducible repeat (first | apply Kd.R_alloc | apply Kd.R_drewN | apply Kd.R_drew)); exact Kd.R_mono HO267.out (fun _ hk => ⟨hk.1.2, hk.2⟩)⟩, ⟨by (with_reducible repeat (first | apply Kd.R_alloc | apply Kd.R_drewN | apply Kd.R_drew)); exact Kd.R_mono HO258.out (fun _ hk => ⟨hk.2, hk.1⟩)⟩, ⟨by (with_reducible repeat (first | apply Kd.R_alloc | apply Kd.R_drewN | apply Kd.R_drew)); exact Kd.R_mono HO261.out (fun _ hk => ⟨hk.2, hk.1⟩)⟩, ⟨by (with_reducible repeat (first | refine blk_drewN ?_ _ | refine blk_drew ?_ | refine blk_alloc ?_ _)); exact BK254.out⟩, ⟨by (with_reducible repeat (first | refine blk_drewN ?_ _ | refine blk_drew ?_ | refine blk_alloc ?_ _)); exact BK255.out⟩, ⟨by (with_reducible repeat (first | refine blk_drewN ?_ _ | refine blk_drew ?_ | refine blk_alloc ?_ _)); exact BK263.out⟩, ⟨by repeat (first | (with_reducible first | exact HB.out | apply below_alloc | apply pw_below_drewN | apply below_drew1 | refine below_set ?_ GE254.out | refine below_set ?_ GE255.out | refine below_set ?_ GE263.out) | exact HB.out)⟩⟩
   ·replace c20 := Bool.eq_false_iff.mpr c20
    subst c20
    have H1 : (spec_SlideOut.j0 k a1 t264 true l0_0 l0_1) = some (r1, r2, r3, r4) := by rw [if_neg (show ¬ (false = true) by decide)] at H; exact H
    clear H
    have H := H1
    clear H1
    have H' := Aside0.mk H
    clear H
    have hnb25 := NB254_255.out
    have hnc25 := NB255_254.out
    have hnb26 := NB254_263.out
    have hnc26 := NB263_254.out
    have hcz27_0 : w17.cell? ⟨gb254, 0, none⟩ = some (.slice A0_0 l0_0.length c0_0) := (blk_cell BK254.out 0).trans rfl
    have hcz27_1 : w17.cell? ⟨gb254, 1, none⟩ = some (.slice A0_1 l0_1.length c0_1) := (blk_cell BK254.out 1).trans rfl
    have hfz27_0 := blk_frozen BK254.out 0
    have hfz27_1 := blk_frozen BK254.out 1
    go_wp2_with (first | (go_at_call 34; (with_reducible refine (spec_IsTableau.calls k _ _ l0_0 _ _ l0_1 false _ ?side1 ?side2 ?side3 ?side4 A19.out).mono ?_); (case side1 => repeat (first | exact (Kd.C_below HR0_0.out HB.out) | (with_reducible refine Kd.C_alloc ?_ _) | (with_reducible refine Kd.C_drewN ?_ _) | (with_reducible refine Kd.C_drew ?_))); (case side2 => exact HC0_0.out); (case side3 => repeat (first | exact (Kd.C_below HR0_1.out HB.out) | (with_reducible refine Kd.C_alloc ?_ _) | (with_reducible refine Kd.C_drewN ?_ _) | (with_reducible refine Kd.C_drew ?_))); (case side4 => exact HC0_1.out); rintro e w28 ⟨rfl, hb⟩; have n0_ := Aside0.mk (Kd.R_below (by (with_reducible repeat (first | apply Kd.R_alloc | apply Kd.R_drewN | apply Kd.R_drew)); exact HO258.out) hb); have n1_ := Aside0.mk (Kd.R_below (by (with_reducible repeat (first | apply Kd.R_alloc | apply Kd.R_drewN | apply Kd.R_drew)); exact HO261.out) hb); have n2_ := Aside0.mk (Kd.R_below (by (with_reducible repeat (first | apply Kd.R_alloc | apply Kd.R_drewN | apply Kd.R_drew)); exact HO267.out) hb); have n3_ := Aside0.mk (blk_below (g := gb254) (o := .cells #[.slice A0_0 l0_0.length c0_0, .slice A0_1 l0_1.length c0_1] 28 (0, 0)) (by (with_reducible repeat (first | refine blk_drewN ?_ _ | refine blk_drew ?_ | refine blk_alloc ?_ _)); exact BK254.out) hb); have n4_ := Aside0.mk (blk_below (g := gb255) (o := .cells #[.slice none 0 0, .slice none 0 0] 28 (0, 0)) (by (with_reducible repeat (first | refine blk_drewN ?_ _ | refine blk_drew ?_ | refine blk_alloc ?_ _)); exact BK255.out) hb); have n5_ := Aside0.mk (blk_below (g := gb263) (o := .cells #[.slice Ao12 t256.length co12, .slice Ao16 t259.length co16] 61 (0, 0)) (by (with_reducible repeat (first | refine blk_drewN ?_ _ | refine blk_drew ?_ | refine blk_alloc ?_ _)); exact BK263.out) hb); have n6_ := Aside0.mk (below_step (by repeat (first | (with_reducible first | exact HB.out | apply below_alloc | apply pw_below_drewN | apply below_drew1 | refine below_set ?_ GE254.out | refine below_set ?_ GE255.out | refine below_set ?_ GE263.out) | exact HB.out)) hb); clear HO258; clear HO261; clear HO267; clear BK254; clear BK255; clear BK263; clear HB; have HO258 := n0_; have HO261 := n1_; have HO267 := n2_; have BK254 := n3_; have BK255 := n4_; have BK263 := n5_; have HB := n6_; clear n0_ n1_ n2_ n3_ n4_ n5_ n6_; (try clear hb); (try clear hb2); (try clear hk); (try clear hi)))
    go_meet
    case rel => exact ⟨_, (true), (by first | rfl | (simp; done) | (simp [*]; done)), H', ⟨by first | omega | exact Nat.le_refl _⟩, ⟨by (with_reducible repeat (first | apply Kd.R_alloc | apply Kd.R_drewN | apply Kd.R_drew)); exact Kd.R_mono HO267.out (fun _ hk => ⟨hk.1.2, hk.2⟩)⟩, ⟨by (with_reducible repeat (first | apply Kd.R_alloc | apply Kd.R_drewN | apply Kd.R_drew)); exact Kd.R_mono HO258.out (fun _ hk => ⟨hk.2, hk.1⟩)⟩, ⟨by (with_reducible repeat (first | apply Kd.R_alloc | apply Kd.R_drewN | apply Kd.R_drew)); exact Kd.R_mono HO261.out (fun _ hk => ⟨hk.2, hk.1⟩)⟩, ⟨by (with_reducible repeat (first | refine blk_drewN ?_ _ | refine blk_drew ?_ | refine blk_alloc ?_ _)); exact BK254.out⟩, ⟨by (with_reducible repeat (first | refine blk_drewN ?_ _ | refine blk_drew ?_ | refine blk_alloc ?_ _)); exact BK255.out⟩, ⟨by (with_reducible repeat (first | refine blk_drewN ?_ _ | refine blk_drew ?_ | refine blk_alloc ?_ _)); exact BK263.out⟩, ⟨by repeat (first | (with_reducible first | exact HB.out | apply below_alloc | apply pw_below_drewN | apply below_drew1 | refine below_set ?_ GE254.out | refine below_set ?_ GE255.out | refine below_set ?_ GE263.out) | exact HB.out)⟩⟩
  ·replace c18 := Bool.eq_false_iff.mpr c18
   subst c18
   have H1 : (spec_SlideOut.j0 k a1 t264 true l0_0 l0_1) = some (r1, r2, r3, r4) := by rw [if_neg (show ¬ (false = true) by decide)] at H; exact H
   clear H
   have H := H1
   clear H1
   have H' := Aside0.mk H
   clear H
   go_wp2
   go_meet
   case rel => exact ⟨_, (true), (by first | rfl | (simp; done) | (simp [*]; done)), H', ⟨by first | omega | exact Nat.le_refl _⟩, ⟨by (with_reducible repeat (first | apply Kd.R_alloc | apply Kd.R_drewN | apply Kd.R_drew)); exact Kd.R_mono HO267.out (fun _ hk => ⟨hk.1.2, hk.2⟩)⟩, ⟨by (with_reducible repeat (first | apply Kd.R_alloc | apply Kd.R_drewN | apply Kd.R_drew)); exact Kd.R_mono HO258.out (fun _ hk => ⟨hk.2, hk.1⟩)⟩, ⟨by (with_reducible repeat (first | apply Kd.R_alloc | apply Kd.R_drewN | apply Kd.R_drew)); exact Kd.R_mono HO261.out (fun _ hk => ⟨hk.2, hk.1⟩)⟩, ⟨by (with_reducible repeat (first | refine blk_drewN ?_ _ | refine blk_drew ?_ | refine blk_alloc ?_ _)); exact BK254.out⟩, ⟨by (with_reducible repeat (first | refine blk_drewN ?_ _ | refine blk_drew ?_ | refine blk_alloc ?_ _)); exact BK255.out⟩, ⟨by (with_reducible repeat (first | refine blk_drewN ?_ _ | refine blk_drew ?_ | refine blk_alloc ?_ _)); exact BK263.out⟩, ⟨by repeat (first | (with_reducible first | exact HB.out | apply below_alloc | apply pw_below_drewN | apply below_drew1 | refine below_set ?_ GE254.out | refine below_set ?_ GE255.out | refine below_set ?_ GE263.out) | exact HB.out)⟩⟩
 case rest =>
  clear HC5
  try clear c1
  try clear c2
  try clear p2
  try clear c5
  try clear c8
  try clear c13
  try clear c14
  try clear c18
  try clear c20
  try clear c21
  try clear c22
  try clear c24
  try clear c25
  try clear c26
  try clear hcz15_0
  try clear hcz15_1
  try clear hcz23_0
  try clear hcz23_1
  try clear hcz27_0
  try clear hcz27_1
  try clear hcz9_0
  try clear hcz9_1
  try clear hfz15_0
  try clear hfz15_1
  try clear hfz23_0
  try clear hfz23_1
  try clear hfz27_0
  try clear hfz27_1
  try clear hfz9_0
  try clear hfz9_1
  obtain ⟨kq, x40_4, rfl, HA, HJ4, HO_9, HO_264000, HO_264001, BK254, BK255, BK263, HB⟩ := hcut
  cases kq with
  | zero => exact absurd HA.out (by simp [spec_SlideOut.j0])
  | succ kj4 =>
   have H := HA.out
   clear HA
   simp only [spec_SlideOut.j0] at H
   by_cases c29 : x40_4 = true
   ·subst c29
    have H1 : (some (([] : List Int), ([] : List (List Int)), 0, false)) = some (r1, r2, r3, r4) := by rw [if_pos rfl] at H; exact H
    clear H
    have H := H1
    clear H1
    simp only [Option.some.injEq, Prod.mk.injEq] at H
    obtain ⟨rfl, rfl, rfl, rfl⟩ := H
    have hnb30 := NB255_254.out
    have hnc30 := NB254_255.out
    have hnb31 := NB255_263.out
    have hnc31 := NB263_255.out
    have hcz32_0 : wc.cell? ⟨gb255, 0, none⟩ = some (.slice none 0 0) := (blk_cell BK255.out 0).trans rfl
    have hcz32_1 : wc.cell? ⟨gb255, 1, none⟩ = some (.slice none 0 0) := (blk_cell BK255.out 1).trans rfl
    have hfz32_0 := blk_frozen BK255.out 0
    have hfz32_1 := blk_frozen BK255.out 1
    go_wp2
    refine bodyPost_ret (results_ctt rfl _ _ gb255 28 #[.slice none 0 0, .slice none 0 0] (0, 0) _ rfl (by (with_reducible repeat (first | refine blk_drewN ?_ _ | refine blk_drew ?_ | refine blk_alloc ?_ _)); refine blk_put (cs := #[.slice none 0 0, .slice none 0 0]) ?_ 1 _ rfl; (with_reducible repeat (first | refine blk_drewN ?_ _ | refine blk_drew ?_ | refine blk_alloc ?_ _)); refine blk_put (cs := #[.slice none 0 0, .slice none 0 0]) ?_ 0 _ rfl; (with_reducible repeat (first | refine blk_drewN ?_ _ | refine blk_drew ?_ | refine blk_alloc ?_ _)); exact BK255.out) Try.underlying28 rfl (by kernel_rfl)) rfl ?_
    exact ⟨_, _, by first | rfl | (simp [errW_none, errW_some] <;> rfl) | (simp [*, errW_none, errW_some] <;> rfl), by first | exact Kd.R_nil _ _ _ _ _ | exact Kd.N_nil _ _ _ _ _ | exact Kd.V_nil _ _ _ _ _ | exact Kd.Q_nil _ _ _ _ _ | exact Kd.S_nil _ _ _ _ _, by first | exact Kd.S_nil _ _ _ _ _ | exact Kd.N_nil _ _ _ _ _ | exact Kd.V_nil _ _ _ _ _ | exact Kd.Q_nil _ _ _ _ _ | exact Kd.R_nil _ _ _ _ _, by repeat (first | (with_reducible first | exact HB.out | apply below_alloc | apply pw_below_drewN | apply below_drew1 | refine below_set ?_ GE254.out | refine below_set ?_ GE255.out | refine below_set ?_ GE263.out) | exact HB.out)⟩
   ·replace c29 := Bool.eq_false_iff.mpr c29
    subst c29
    have H1 : ((spec_l13Grid.f kj4 l0_0 l0_1).bind fun t269 => (if 0 ≤ a1 then (if a1 < (t264.length : Int) then (spec_SlideOut.l0 kj4 t264 t269 a1 (wrap64 ((rd t264 a1) - 1)) l0_0 l0_1) else (none)) else (none))) = some (r1, r2, r3, r4) := by rw [if_neg (show ¬ (false = true) by decide)] at H; exact H
    clear H
    have H := H1
    clear H1
    replace H := Option.bind_eq_some_iff.mp H
    obtain ⟨t269, A330, H⟩ := H
    replace H : (if 0 ≤ a1 then (if a1 < (t264.length : Int) then (spec_SlideOut.l0 kj4 t264 t269 a1 (wrap64 ((rd t264 a1) - 1)) l0_0 l0_1) else (none)) else (none)) = some (r1, r2, r3, r4) := H
    have A33 := Aside0.mk A330
    clear A330
    by_cases c34 : 0 ≤ a1
    ·rw [if_pos c34] at H
     have c34b0 : decide (0 ≤ a1) = true := decide_eq_true c34
     clear c34
     by_cases c35 : a1 < (t264.length : Int)
     ·rw [if_pos c35] at H
      have c35b0 : decide (a1 < (t264.length : Int)) = true := decide_eq_true c35
      clear c35
      have H' := Aside0.mk H
      clear H
      have hnb36 := NB254_255.out
      have hnc36 := NB255_254.out
      have hnb37 := NB254_263.out
      have hnc37 := NB263_254.out
      have hcz38_0 : wc.cell? ⟨gb254, 0, none⟩ = some (.slice A0_0 l0_0.length c0_0) := (blk_cell BK254.out 0).trans rfl
      have hcz38_1 : wc.cell? ⟨gb254, 1, none⟩ = some (.slice A0_1 l0_1.length c0_1) := (blk_cell BK254.out 1).trans rfl
      have hfz38_0 := blk_frozen BK254.out 0
      have hfz38_1 := blk_frozen BK254.out 1
      go_wp2_with (first | ((with_reducible refine gate_callee (f := 55) rfl ?_); refine zG (some 43) Try.func55 #[.agg #[.slice A0_0 l0_0.length c0_0, .slice A0_1 l0_1.length c0_1]] ?_; (with_reducible refine (spec_l13Grid.calls kj4 _ _ l0_0 _ _ l0_1 t269 _ ?side1 ?side2 ?side3 ?side4 A33.out).mono ?_); (case side1 => repeat (first | exact (Kd.C_below HR0_0.out HB.out) | (with_reducible refine Kd.C_alloc ?_ _) | (with_reducible refine Kd.C_drewN ?_ _) | (with_reducible refine Kd.C_drew ?_))); (case side2 => exact HC0_0.out); (case side3 => repeat (first | exact (Kd.C_below HR0_1.out HB.out) | (with_reducible refine Kd.C_alloc ?_ _) | (with_reducible refine Kd.C_drewN ?_ _) | (with_reducible refine Kd.C_drew ?_))); (case side4 => exact HC0_1.out); rintro e w39 ⟨v270, rfl, ho0, hb⟩; refine ⟨_, rfl, ?_⟩; have n0_ := Aside0.mk (Kd.R_below (by (with_reducible repeat (first | apply Kd.R_alloc | apply Kd.R_drewN | apply Kd.R_drew)); exact HO_9.out) hb); have n1_ := Aside0.mk (Kd.R_below (by (with_reducible repeat (first | apply Kd.R_alloc | apply Kd.R_drewN | apply Kd.R_drew)); exact HO_264000.out) hb); have n2_ := Aside0.mk (Kd.R_below (by (with_reducible repeat (first | apply Kd.R_alloc | apply Kd.R_drewN | apply Kd.R_drew)); exact HO_264001.out) hb); have n3_ := Aside0.mk (Kd.S_lower (Kd.S_new' (Kd.S_new' (Kd.S_new' ho0 (Kd.R_lt (by (with_reducible repeat (first | apply Kd.R_alloc | apply Kd.R_drewN | apply Kd.R_drew)); exact HO_9.out))) (Kd.R_lt (by (with_reducible repeat (first | apply Kd.R_alloc | apply Kd.R_drewN | apply Kd.R_drew)); exact HO_264000.out))) (Kd.R_lt (by (with_reducible repeat (first | apply Kd.R_alloc | apply Kd.R_drewN | apply Kd.R_drew)); exact HO_264001.out))) (below_size (by repeat (first | (with_reducible first | exact HB.out | apply below_alloc | apply pw_below_drewN | apply below_drew1 | refine below_set ?_ GE254.out | refine below_set ?_ GE255.out | refine below_set ?_ GE263.out) | exact HB.out)))); have n4_ := Aside0.mk (blk_below (g := gb254) (o := .cells #[.slice A0_0 l0_0.length c0_0, .slice A0_1 l0_1.length c0_1] 28 (0, 0)) (by (with_reducible repeat (first | refine blk_drewN ?_ _ | refine blk_drew ?_ | refine blk_alloc ?_ _)); exact BK254.out) hb); have n5_ := Aside0.mk (blk_below (g := gb255) (o := .cells #[.slice none 0 0, .slice none 0 0] 28 (0, 0)) (by (with_reducible repeat (first | refine blk_drewN ?_ _ | refine blk_drew ?_ | refine blk_alloc ?_ _)); exact BK255.out) hb); have n6_ := Aside0.mk (blk_below (g := gb263) (o := .cells #[.slice Ao12 t256.length co12, .slice Ao16 t259.length co16] 61 (0, 0)) (by (with_reducible repeat (first | refine blk_drewN ?_ _ | refine blk_drew ?_ | refine blk_alloc ?_ _)); exact BK263.out) hb); have n7_ := Aside0.mk (below_step (by repeat (first | (with_reducible first | exact HB.out | apply below_alloc | apply pw_below_drewN | apply below_drew1 | refine below_set ?_ GE254.out | refine below_set ?_ GE255.out | refine below_set ?_ GE263.out) | exact HB.out)) hb); clear HO_9; clear HO_264000; clear HO_264001; clear BK254; clear BK255; clear BK263; clear HB; have HO_9 := n0_; have HO_264000 := n1_; have HO_264001 := n2_; have HO271 := n3_; have BK254 := n4_; have BK255 := n5_; have BK263 := n6_; have HB := n7_; clear n0_ n1_ n2_ n3_ n4_ n5_ n6_ n7_; (try clear hb); (try clear hb2); (try clear hk); (try clear hi); (try clear ho0); obtain ⟨Ao40, co40, eo40⟩ := Kd.R_slice HO_9.out; subst eo40; have p272 : 0 ≤ (a1 : Int) := of_decide_eq_true (by first | (with_reducible assumption) | assumption); have q272 : a1 < (t264.length : Int) := of_decide_eq_true (by first | (with_reducible assumption) | assumption); obtain ⟨ad272, e272, hx272_0⟩ := Kd.at_int (Kd.R_reads' HO_9.out).2.2 a1 p272 q272; cases e272; replace p272 := eq_true p272; replace q272 := eq_true q272))
      go_loopg [12, 13] kj4 (fun kq v12 v13 w' => ∃ (x9_2 : List Int) (x11_2 : List (List Int)) (x12_2 : Int) (x13_2 : Int) (x264000_2 : List Int) (x264001_2 : List Int) (u264000 : Value) (u264001 : Value), v12 = .int .i64 x12_2 ∧ v13 = .int .i64 x13_2 ∧ Aside0 (spec_SlideOut.l0 kq x9_2 x11_2 x12_2 x13_2 l0_0 l0_1 = some (r1, r2, r3, r4)) ∧ Aside0 (kq ≤ kj4) ∧ Aside0 (Kd.R (Kd.int .i64) 3 w' w.heap.size (fun k_ => some k_ ≠ (u264000 : Value).ownBlock ∧ some k_ ≠ (u264001 : Value).ownBlock) (.slice (some ad272) t264.length co40) x9_2) ∧ Aside0 (Kd.S (Kd.slice 3 (Kd.int .i64)) 22 w' w.heap.size (fun k_ => some k_ ≠ ((.slice (some ad272) t264.length co40) : Value).ownBlock ∧ some k_ ≠ (u264000 : Value).ownBlock ∧ some k_ ≠ (u264001 : Value).ownBlock) v270 x11_2) ∧ Aside0 (Kd.R (Kd.int .i64) 3 w' w.heap.size (fun k_ => some k_ ≠ ((.slice (some ad272) t264.length co40) : Value).ownBlock ∧ some k_ ≠ (u264001 : Value).ownBlock) u264000 x264000_2) ∧ Aside0 (Kd.R (Kd.int .i64) 3 w' w.heap.size (fun k_ => some k_ ≠ ((.slice (some ad272) t264.length co40) : Value).ownBlock ∧ some k_ ≠ (u264000 : Value).ownBlock) u264001 x264001_2) ∧ Aside0 (w'.heap[gb254]? = some (.cells #[(.slice A0_0 l0_0.length c0_0), (.slice A0_1 l0_1.length c0_1)] 28 (0, 0))) ∧ Aside0 (w'.heap[gb255]? = some (.cells #[(.slice none 0 0), (.slice none 0 0)] 28 (0, 0))) ∧ Aside0 (w'.heap[gb263]? = some (.cells #[u264000, u264001] 61 (0, 0))) ∧ Aside0 (Below w.heap.size w w'))
      case atStart => exact ⟨(t264), (t269), (a1), (wrap64 ((rd t264 a1) - 1)), (t256), (t259), (.slice Ao12 t256.length co12), (.slice Ao16 t259.length co16), (by first | rfl | (simp; done) | (simp [*]; done)), (by first | rfl | (simp; done) | (simp [*]; done)), H', ⟨Nat.le_refl _⟩, ⟨by (with_reducible repeat (first | apply Kd.R_alloc | apply Kd.R_drewN | apply Kd.R_drew)); exact HO_9.out⟩, ⟨by (with_reducible repeat (first | apply Kd.S_alloc | apply Kd.S_drewN | apply Kd.S_drew)); exact Kd.S_mono HO271.out (fun _ hk => ⟨hk.1.1.2, ⟨hk.1.2, hk.2⟩⟩)⟩, ⟨by (with_reducible repeat (first | apply Kd.R_alloc | apply Kd.R_drewN | apply Kd.R_drew)); exact HO_264000.out⟩, ⟨by (with_reducible repeat (first | apply Kd.R_alloc | apply Kd.R_drewN | apply Kd.R_drew)); exact HO_264001.out⟩, ⟨by (with_reducible repeat (first | refine blk_drewN ?_ _ | refine blk_drew ?_ | refine blk_alloc ?_ _)); exact BK254.out⟩, ⟨by (with_reducible repeat (first | refine blk_drewN ?_ _ | refine blk_drew ?_ | refine blk_alloc ?_ _)); exact BK255.out⟩, ⟨by (with_reducible repeat (first | refine blk_drewN ?_ _ | refine blk_drew ?_ | refine blk_alloc ?_ _)); exact BK263.out⟩, ⟨by repeat (first | (with_reducible first | exact HB.out | apply below_alloc | apply pw_below_drewN | apply below_drew1 | refine below_set ?_ GE254.out | refine below_set ?_ GE255.out | refine below_set ?_ GE263.out) | exact HB.out)⟩⟩
      case round =>
       clear H'
       try clear c1
       try clear c2
       try clear p2
       try clear q2
       try clear hx2
       try clear c3
       try clear c5
       try clear p6
       try clear c8
       try clear c13
       try clear c14
       try clear c18
       try clear c20
       try clear c21
       try clear c22
       try clear c24
       try clear c25
       try clear c26
       try clear p27
       try clear q27
       try clear hx27
       try clear c29
       try clear c30
       try clear c31
       try clear c34
       try clear c34b0
       try clear c35
       try clear c35b0
       try clear c36
       try clear c37
       try clear hcz15_0
       try clear hcz15_1
       try clear hcz23_0
       try clear hcz23_1
       try clear hcz27_0
       try clear hcz27_1
       try clear hcz32_0
       try clear hcz32_1
       try clear hcz38_0
       try clear hcz38_1
       try clear hcz9_0
       try clear hcz9_1
       try clear hfz15_0
       try clear hfz15_1
       try clear hfz23_0
       try clear hfz23_1
       try clear hfz27_0
       try clear hfz27_1
       try clear hfz32_0
       try clear hfz32_1
       try clear hfz38_0
       try clear hfz38_1
       try clear hfz9_0
       try clear hfz9_1
       try clear hx272_0
       try clear p2
       try clear p272
       try clear q272
       obtain ⟨x9_2, x11_2, x12_2, x13_2, x264000_2, x264001_2, u264000, u264001, rfl, rfl, HA, HK2, HO_9, HO_11, HO_264000, HO_264001, BK254, BK255, BK263, HB⟩ := hrel
       have hl9_2 := (Kd.R_reads' HO_9.out).1
       rw [hl9_2] at HO_9
       (try simp only [hl9_2])
       (try simp only [hl9_2] at BK254)
       (try simp only [hl9_2] at BK255)
       (try simp only [hl9_2] at BK263)
       (try simp only [hl9_2] at HO_11)
       (try simp only [hl9_2] at HO_264000)
       (try simp only [hl9_2] at HO_264001)
       cases gk with
       | zero => exact absurd HA.out (by simp [spec_SlideOut.l0])
       | succ k2 =>
        have H := HA.out
        clear HA
        simp only [spec_SlideOut.l0] at H
        have HC41 := Aside0.mk H
        clear H
        go_upto_if 51 with (fail)
        go_cut [14] (fun v14 wc => ∃ (kq : Nat) (x14_40 : Int), v14 = .int .i64 x14_40 ∧ Aside0 (spec_SlideOut.j2 kq x9_2 x11_2 x12_2 x13_2 x14_40 l0_0 l0_1 = some (r1, r2, r3, r4)) ∧ Aside0 (kq ≤ k2) ∧ Aside0 (Kd.R (Kd.int .i64) 3 wc w.heap.size (fun k_ => some k_ ≠ (u264000 : Value).ownBlock ∧ some k_ ≠ (u264001 : Value).ownBlock) (.slice (some ad272) x9_2.length co40) x9_2) ∧ Aside0 (Kd.S (Kd.slice 3 (Kd.int .i64)) 22 wc w.heap.size (fun k_ => some k_ ≠ ((.slice (some ad272) x9_2.length co40) : Value).ownBlock ∧ some k_ ≠ (u264000 : Value).ownBlock ∧ some k_ ≠ (u264001 : Value).ownBlock) v270 x11_2) ∧ Aside0 (Kd.R (Kd.int .i64) 3 wc w.heap.size (fun k_ => some k_ ≠ ((.slice (some ad272) x9_2.length co40) : Value).ownBlock ∧ some k_ ≠ (u264001 : Value).ownBlock) u264000 x264000_2) ∧ Aside0 (Kd.R (Kd.int .i64) 3 wc w.heap.size (fun k_ => some k_ ≠ ((.slice (some ad272) x9_2.length co40) : Value).ownBlock ∧ some k_ ≠ (u264000 : Value).ownBlock) u264001 x264001_2) ∧ Aside0 (wc.heap[gb254]? = some (.cells #[(.slice A0_0 l0_0.length c0_0), (.slice A0_1 l0_1.length c0_1)] 28 (0, 0))) ∧ Aside0 (wc.heap[gb255]? = some (.cells #[(.slice none 0 0), (.slice none 0 0)] 28 (0, 0))) ∧ Aside0 (wc.heap[gb263]? = some (.cells #[u264000, u264001] 61 (0, 0))) ∧ Aside0 (Below w.heap.size w wc))
        case first =>
         have H := HC41.out
         clear HC41
         by_cases c42 : x13_2 > 0
         ·rw [if_pos c42] at H
          have c42b0 : decide (0 < x13_2) = true := decide_eq_true c42
          clear c42
          (first | rw [c42b0] | (simp only [i64_w, i32_w]; rw [c42b0]) | skip)
          by_cases c43 : 0 ≤ x12_2
          ·rw [if_pos c43] at H
           have c43b0 : decide (0 ≤ x12_2) = true := decide_eq_true c43
           clear c43
           by_cases c44 : x12_2 < (x11_2.length : Int)
           ·rw [if_pos c44] at H
            have c44b0 : decide (x12_2 < (x11_2.length : Int)) = true := decide_eq_true c44
            clear c44
            obtain ⟨ji45, hji45⟩ : ∃ j_ : Int, (wrap64 (x13_2 - 1)) = j_ := ⟨_, rfl⟩
            replace H : (if 0 ≤ (ji45) then (if (ji45) < ((rd_L1 x11_2 x12_2).length : Int) then (spec_SlideOut.j2 k2 x9_2 x11_2 x12_2 x13_2 (rd (rd_L1 x11_2 x12_2) (ji45)) l0_0 l0_1) else (none)) else (none)) = some (r1, r2, r3, r4) := by first | (rw [hji45] at H; exact H) | (simp only [hji45] at H ⊢; exact H)
            have hji45w : (IntKind.i64.wrap (x13_2 - 1)) = ji45 := (i64_w _).trans hji45
            by_cases c46 : 0 ≤ (ji45)
            ·rw [if_pos c46] at H
             have c46b0 : decide (0 ≤ (ji45)) = true := decide_eq_true c46
             clear c46
             by_cases c47 : (ji45) < ((rd_L1 x11_2 x12_2).length : Int)
             ·rw [if_pos c47] at H
              have c47b0 : decide ((ji45) < ((rd_L1 x11_2 x12_2).length : Int)) = true := decide_eq_true c47
              clear c47
              have H' := Aside0.mk H
              clear H
              obtain ⟨Ao48, co48, eo48⟩ := Kd.S_slice HO_11.out
              subst eo48
              have p273 : 0 ≤ (x12_2 : Int) := of_decide_eq_true (by first | (with_reducible assumption) | assumption)
              have q273 : x12_2 < (x11_2.length : Int) := of_decide_eq_true (by first | (with_reducible assumption) | assumption)
              obtain ⟨ad273, A273_0, c273_0, e273, hx273_0, hl273_0, hi273_0⟩ := at_L1 (Kd.S_reads' HO_11.out).2.2 x12_2 p273 q273
              cases e273
              obtain ⟨ce273, hce273, hMe273, hcc273⟩ := Kd.S_get HO_11.out [] x12_2 p273 (by first | exact q273 | exact of_decide_eq_true (by first | (with_reducible assumption) | assumption) | (have e_ := (Kd.S_reads' HO_11.out).1; omega))
              obtain ⟨ve273_0, rfl, ge273_0⟩ := hMe273
              have hv273_0 := hcc273 0 _ rfl
              rw [Nat.add_zero, show ((Kd.slice 3 (Kd.int .i64))).sz = 1 from rfl, Nat.mul_one] at hv273_0
              replace hv273_0 := Option.some.inj (hv273_0.symm.trans hx273_0)
              rw [hv273_0] at ge273_0
              have HL273_0 := Aside0.mk (show Kd.R (Kd.int .i64) 3 _ _ _ _ (rd_L1 x11_2 x12_2) from ge273_0)
              clear hv273_0 ge273_0
              have HX273_0 := Aside0.mk hx273_0
              clear hcc273 hce273
              have HR273_0 := Aside0.mk hi273_0
              have HC273_0 := Aside0.mk hl273_0
              clear hi273_0 hl273_0
              replace p273 := eq_true p273
              replace q273 := eq_true q273
              have p274 : 0 ≤ ((ji45) : Int) := of_decide_eq_true (by first | (with_reducible assumption) | assumption)
              have q274 : (ji45) < ((rd_L1 x11_2 x12_2).length : Int) := of_decide_eq_true (by first | (with_reducible assumption) | assumption)
              obtain ⟨ad274, e274, hx274_0⟩ := Kd.at_int (by repeat (first | (with_reducible exact HR273_0.out) | (with_reducible refine Kd.C_alloc ?_ _) | (with_reducible refine Kd.C_drewN ?_ _) | (with_reducible refine Kd.C_drew ?_) | exact HR273_0.out)) (ji45) p274 q274
              cases e274
              replace p274 := eq_true p274
              replace q274 := eq_true q274
              go_wp2
              go_meet
              case rel => exact ⟨_, (rd (rd_L1 x11_2 x12_2) (ji45)), (by first | rfl | (simp; done) | (simp only [← hji45] <;> (first | rfl | simp)) | (simp [*]; done)), H', ⟨by have := HJ4.out; have := HK2.out; first | omega | exact Nat.le_refl _⟩, ⟨by (try simp only [hl9_2]); (with_reducible repeat (first | apply Kd.R_alloc | apply Kd.R_drewN | apply Kd.R_drew)); exact HO_9.out⟩, ⟨by (try simp only [hl9_2]); (with_reducible repeat (first | apply Kd.S_alloc | apply Kd.S_drewN | apply Kd.S_drew)); exact HO_11.out⟩, ⟨by (try simp only [hl9_2]); (with_reducible repeat (first | apply Kd.R_alloc | apply Kd.R_drewN | apply Kd.R_drew)); exact HO_264000.out⟩, ⟨by (try simp only [hl9_2]); (with_reducible repeat (first | apply Kd.R_alloc | apply Kd.R_drewN | apply Kd.R_drew)); exact HO_264001.out⟩, ⟨by (try simp only [hl9_2]); (with_reducible repeat (first | refine blk_drewN ?_ _ | refine blk_drew ?_ | refine blk_alloc ?_ _)); exact BK254.out⟩, ⟨by (try simp only [hl9_2]); (with_reducible repeat (first | refine blk_drewN ?_ _ | refine blk_drew ?_ | refine blk_alloc ?_ _)); exact BK255.out⟩, ⟨by (try simp only [hl9_2]); (with_reducible repeat (first | refine blk_drewN ?_ _ | refine blk_drew ?_ | refine blk_alloc ?_ _)); exact BK263.out⟩, ⟨by repeat (first | (with_reducible first | exact HB.out | apply below_alloc | apply pw_below_drewN | apply below_drew1 | refine below_set ?_ GE254.out | refine below_set ?_ GE255.out | refine below_set ?_ GE263.out) | exact HB.out)⟩⟩
             ·rw [if_neg c47] at H
              exact absurd H (by simp)
            ·rw [if_neg c46] at H
             exact absurd H (by simp)
           ·rw [if_neg c44] at H
            exact absurd H (by simp)
          ·rw [if_neg c43] at H
           exact absurd H (by simp)
         ·rw [if_neg c42] at H
          have c42b0 : decide (0 < x13_2) = false := decide_eq_false c42
          clear c42
          (first | rw [c42b0] | (simp only [i64_w, i32_w]; rw [c42b0]) | skip)
          have H' := Aside0.mk H
          clear H
          go_wp2
          go_meet
          case rel => exact ⟨_, (0), (by first | rfl | (simp; done) | (simp [*]; done)), H', ⟨by have := HJ4.out; have := HK2.out; first | omega | exact Nat.le_refl _⟩, ⟨by (try simp only [hl9_2]); (with_reducible repeat (first | apply Kd.R_alloc | apply Kd.R_drewN | apply Kd.R_drew)); exact HO_9.out⟩, ⟨by (try simp only [hl9_2]); (with_reducible repeat (first | apply Kd.S_alloc | apply Kd.S_drewN | apply Kd.S_drew)); exact HO_11.out⟩, ⟨by (try simp only [hl9_2]); (with_reducible repeat (first | apply Kd.R_alloc | apply Kd.R_drewN | apply Kd.R_drew)); exact HO_264000.out⟩, ⟨by (try simp only [hl9_2]); (with_reducible repeat (first | apply Kd.R_alloc | apply Kd.R_drewN | apply Kd.R_drew)); exact HO_264001.out⟩, ⟨by (try simp only [hl9_2]); (with_reducible repeat (first | refine blk_drewN ?_ _ | refine blk_drew ?_ | refine blk_alloc ?_ _)); exact BK254.out⟩, ⟨by (try simp only [hl9_2]); (with_reducible repeat (first | refine blk_drewN ?_ _ | refine blk_drew ?_ | refine blk_alloc ?_ _)); exact BK255.out⟩, ⟨by (try simp only [hl9_2]); (with_reducible repeat (first | refine blk_drewN ?_ _ | refine blk_drew ?_ | refine blk_alloc ?_ _)); exact BK263.out⟩, ⟨by repeat (first | (with_reducible first | exact HB.out | apply below_alloc | apply pw_below_drewN | apply below_drew1 | refine below_set ?_ GE254.out | refine below_set ?_ GE255.out | refine below_set ?_ GE263.out) | exact HB.out)⟩⟩
        case rest =>
         clear HC41
         try clear c1
         try clear c2
         try clear p2
         try clear q2
         try clear hx2
         try clear c3
         try clear c4
         try clear c5
         try clear p6
         try clear c8
         try clear c13
         try clear c14
         try clear c18
         try clear c20
         try clear c21
         try clear c22
         try clear c24
         try clear c25
         try clear c26
         try clear c27
         try clear p27
         try clear q27
         try clear hx27
         try clear c29
         try clear c30
         try clear c31
         try clear c34
         try clear c34b0
         try clear c35
         try clear c35b0
         try clear c36
         try clear c37
         try clear c42
         try clear c42b0
         try clear c43
         try clear c43b0
         try clear c44
         try clear c44b0
         try clear c46
         try clear c46b0
         try clear c47
         try clear c47b0
         try clear hcz15_0
         try clear hcz15_1
         try clear hcz23_0
         try clear hcz23_1
         try clear hcz27_0
         try clear hcz27_1
         try clear hcz32_0
         try clear hcz32_1
         try clear hcz38_0
         try clear hcz38_1
         try clear hcz9_0
         try clear hcz9_1
         try clear hfz15_0
         try clear hfz15_1
         try clear hfz23_0
         try clear hfz23_1
         try clear hfz27_0
         try clear hfz27_1
         try clear hfz32_0
         try clear hfz32_1
         try clear hfz38_0
         try clear hfz38_1
         try clear hfz9_0
         try clear hfz9_1
         try clear hx272_0
         try clear hx273_0
         try clear hx274_0
         try clear p2
         try clear p27
         try clear p272
         try clear p273
         try clear p274
         try clear p6
         try clear q2
         try clear q27
         try clear q272
         try clear q273
         try clear q274
         obtain ⟨kq, x14_40, rfl, HA, HJ40, HO_9, HO_11, HO_264000, HO_264001, BK254, BK255, BK263, HB⟩ := hcut
         cases kq with
         | zero => exact absurd HA.out (by simp [spec_SlideOut.j2])
         | succ kj40 =>
          have H := HA.out
          clear HA
          simp only [spec_SlideOut.j2] at H
          have HC49 := Aside0.mk H
          clear H
          go_upto_if 61 with (fail)
          go_cut [15] (fun v15 wc => ∃ (kq : Nat) (x15_48 : Int), v15 = .int .i64 x15_48 ∧ Aside0 (spec_SlideOut.j3 kq x9_2 x11_2 x12_2 x13_2 x14_40 x15_48 l0_0 l0_1 = some (r1, r2, r3, r4)) ∧ Aside0 (kq ≤ kj40) ∧ Aside0 (Kd.R (Kd.int .i64) 3 wc w.heap.size (fun k_ => some k_ ≠ (u264000 : Value).ownBlock ∧ some k_ ≠ (u264001 : Value).ownBlock) (.slice (some ad272) x9_2.length co40) x9_2) ∧ Aside0 (Kd.S (Kd.slice 3 (Kd.int .i64)) 22 wc w.heap.size (fun k_ => some k_ ≠ ((.slice (some ad272) x9_2.length co40) : Value).ownBlock ∧ some k_ ≠ (u264000 : Value).ownBlock ∧ some k_ ≠ (u264001 : Value).ownBlock) v270 x11_2) ∧ Aside0 (Kd.R (Kd.int .i64) 3 wc w.heap.size (fun k_ => some k_ ≠ ((.slice (some ad272) x9_2.length co40) : Value).ownBlock ∧ some k_ ≠ (u264001 : Value).ownBlock) u264000 x264000_2) ∧ Aside0 (Kd.R (Kd.int .i64) 3 wc w.heap.size (fun k_ => some k_ ≠ ((.slice (some ad272) x9_2.length co40) : Value).ownBlock ∧ some k_ ≠ (u264000 : Value).ownBlock) u264001 x264001_2) ∧ Aside0 (wc.heap[gb254]? = some (.cells #[(.slice A0_0 l0_0.length c0_0), (.slice A0_1 l0_1.length c0_1)] 28 (0, 0))) ∧ Aside0 (wc.heap[gb255]? = some (.cells #[(.slice none 0 0), (.slice none 0 0)] 28 (0, 0))) ∧ Aside0 (wc.heap[gb263]? = some (.cells #[u264000, u264001] 61 (0, 0))) ∧ Aside0 (Below w.heap.size w wc))
          case first =>
           have H := HC49.out
           clear HC49
           by_cases c50 : x12_2 > 0
           ·rw [if_pos c50] at H
            have c50b0 : decide (0 < x12_2) = true := decide_eq_true c50
            clear c50
            (first | rw [c50b0] | (simp only [i64_w, i32_w]; rw [c50b0]) | skip)
            obtain ⟨ji51, hji51⟩ : ∃ j_ : Int, (wrap64 (x12_2 - 1)) = j_ := ⟨_, rfl⟩
            replace H : (if 0 ≤ (ji51) then (if (ji51) < (x11_2.length : Int) then (if 0 ≤ x13_2 then (if x13_2 < ((rd_L1 x11_2 (ji51)).length : Int) then (spec_SlideOut.j3 kj40 x9_2 x11_2 x12_2 x13_2 x14_40 (rd (rd_L1 x11_2 (ji51)) x13_2) l0_0 l0_1) else (none)) else (none)) else (none)) else (none)) = some (r1, r2, r3, r4) := by first | (rw [hji51] at H; exact H) | (simp only [hji51] at H ⊢; exact H)
            have hji51w : (IntKind.i64.wrap (x12_2 - 1)) = ji51 := (i64_w _).trans hji51
            by_cases c52 : 0 ≤ (ji51)
            ·rw [if_pos c52] at H
             have c52b0 : decide (0 ≤ (ji51)) = true := decide_eq_true c52
             clear c52
             by_cases c53 : (ji51) < (x11_2.length : Int)
             ·rw [if_pos c53] at H
              have c53b0 : decide ((ji51) < (x11_2.length : Int)) = true := decide_eq_true c53
              clear c53
              by_cases c54 : 0 ≤ x13_2
              ·rw [if_pos c54] at H
               have c54b0 : decide (0 ≤ x13_2) = true := decide_eq_true c54
               clear c54
               by_cases c55 : x13_2 < ((rd_L1 x11_2 (ji51)).length : Int)
               ·rw [if_pos c55] at H
                have c55b0 : decide (x13_2 < ((rd_L1 x11_2 (ji51)).length : Int)) = true := decide_eq_true c55
                clear c55
                have H' := Aside0.mk H
                clear H
                obtain ⟨Ao56, co56, eo56⟩ := Kd.S_slice HO_11.out
                subst eo56
                have p275 : 0 ≤ ((ji51) : Int) := of_decide_eq_true (by first | (with_reducible assumption) | assumption)
                have q275 : (ji51) < (x11_2.length : Int) := of_decide_eq_true (by first | (with_reducible assumption) | assumption)
                obtain ⟨ad275, A275_0, c275_0, e275, hx275_0, hl275_0, hi275_0⟩ := at_L1 (Kd.S_reads' HO_11.out).2.2 (ji51) p275 q275
                cases e275
                obtain ⟨ce275, hce275, hMe275, hcc275⟩ := Kd.S_get HO_11.out [] (ji51) p275 (by first | exact q275 | exact of_decide_eq_true (by first | (with_reducible assumption) | assumption) | (have e_ := (Kd.S_reads' HO_11.out).1; omega))
                obtain ⟨ve275_0, rfl, ge275_0⟩ := hMe275
                have hv275_0 := hcc275 0 _ rfl
                rw [Nat.add_zero, show ((Kd.slice 3 (Kd.int .i64))).sz = 1 from rfl, Nat.mul_one] at hv275_0
                replace hv275_0 := Option.some.inj (hv275_0.symm.trans hx275_0)
                rw [hv275_0] at ge275_0
                have HL275_0 := Aside0.mk (show Kd.R (Kd.int .i64) 3 _ _ _ _ (rd_L1 x11_2 (ji51)) from ge275_0)
                clear hv275_0 ge275_0
                have HX275_0 := Aside0.mk hx275_0
                clear hcc275 hce275
                have HR275_0 := Aside0.mk hi275_0
                have HC275_0 := Aside0.mk hl275_0
                clear hi275_0 hl275_0
                replace p275 := eq_true p275
                replace q275 := eq_true q275
                have p276 : 0 ≤ (x13_2 : Int) := of_decide_eq_true (by first | (with_reducible assumption) | assumption)
                have q276 : x13_2 < ((rd_L1 x11_2 (ji51)).length : Int) := of_decide_eq_true (by first | (with_reducible assumption) | assumption)
                obtain ⟨ad276, e276, hx276_0⟩ := Kd.at_int (by repeat (first | (with_reducible exact HR275_0.out) | (with_reducible refine Kd.C_alloc ?_ _) | (with_reducible refine Kd.C_drewN ?_ _) | (with_reducible refine Kd.C_drew ?_) | exact HR275_0.out)) x13_2 p276 q276
                cases e276
                replace p276 := eq_true p276
                replace q276 := eq_true q276
                go_wp2
                go_meet
                case rel => exact ⟨_, (rd (rd_L1 x11_2 (ji51)) x13_2), (by first | rfl | (simp; done) | (simp only [← hji51] <;> (first | rfl | simp)) | (simp [*]; done)), H', ⟨by have := HJ4.out; have := HK2.out; have := HJ40.out; first | omega | exact Nat.le_refl _⟩, ⟨by (try simp only [hl9_2]); (with_reducible repeat (first | apply Kd.R_alloc | apply Kd.R_drewN | apply Kd.R_drew)); exact HO_9.out⟩, ⟨by (try simp only [hl9_2]); (with_reducible repeat (first | apply Kd.S_alloc | apply Kd.S_drewN | apply Kd.S_drew)); exact HO_11.out⟩, ⟨by (try simp only [hl9_2]); (with_reducible repeat (first | apply Kd.R_alloc | apply Kd.R_drewN | apply Kd.R_drew)); exact HO_264000.out⟩, ⟨by (try simp only [hl9_2]); (with_reducible repeat (first | apply Kd.R_alloc | apply Kd.R_drewN | apply Kd.R_drew)); exact HO_264001.out⟩, ⟨by (try simp only [hl9_2]); (with_reducible repeat (first | refine blk_drewN ?_ _ | refine blk_drew ?_ | refine blk_alloc ?_ _)); exact BK254.out⟩, ⟨by (try simp only [hl9_2]); (with_reducible repeat (first | refine blk_drewN ?_ _ | refine blk_drew ?_ | refine blk_alloc ?_ _)); exact BK255.out⟩, ⟨by (try simp only [hl9_2]); (with_reducible repeat (first | refine blk_drewN ?_ _ | refine blk_drew ?_ | refine blk_alloc ?_ _)); exact BK263.out⟩, ⟨by repeat (first | (with_reducible first | exact HB.out | apply below_alloc | apply pw_below_drewN | apply below_drew1 | refine below_set ?_ GE254.out | refine below_set ?_ GE255.out | refine below_set ?_ GE263.out) | exact HB.out)⟩⟩
               ·rw [if_neg c55] at H
                exact absurd H (by simp)
              ·rw [if_neg c54] at H
               exact absurd H (by simp)
             ·rw [if_neg c53] at H
              exact absurd H (by simp)
            ·rw [if_neg c52] at H
             exact absurd H (by simp)
           ·rw [if_neg c50] at H
            have c50b0 : decide (0 < x12_2) = false := decide_eq_false c50
            clear c50
            (first | rw [c50b0] | (simp only [i64_w, i32_w]; rw [c50b0]) | skip)
            have H' := Aside0.mk H
            clear H
            go_wp2
            go_meet
            case rel => exact ⟨_, (0), (by first | rfl | (simp; done) | (simp [*]; done)), H', ⟨by have := HJ4.out; have := HK2.out; have := HJ40.out; first | omega | exact Nat.le_refl _⟩, ⟨by (try simp only [hl9_2]); (with_reducible repeat (first | apply Kd.R_alloc | apply Kd.R_drewN | apply Kd.R_drew)); exact HO_9.out⟩, ⟨by (try simp only [hl9_2]); (with_reducible repeat (first | apply Kd.S_alloc | apply Kd.S_drewN | apply Kd.S_drew)); exact HO_11.out⟩, ⟨by (try simp only [hl9_2]); (with_reducible repeat (first | apply Kd.R_alloc | apply Kd.R_drewN | apply Kd.R_drew)); exact HO_264000.out⟩, ⟨by (try simp only [hl9_2]); (with_reducible repeat (first | apply Kd.R_alloc | apply Kd.R_drewN | apply Kd.R_drew)); exact HO_264001.out⟩, ⟨by (try simp only [hl9_2]); (with_reducible repeat (first | refine blk_drewN ?_ _ | refine blk_drew ?_ | refine blk_alloc ?_ _)); exact BK254.out⟩, ⟨by (try simp only [hl9_2]); (with_reducible repeat (first | refine blk_drewN ?_ _ | refine blk_drew ?_ | refine blk_alloc ?_ _)); exact BK255.out⟩, ⟨by (try simp only [hl9_2]); (with_reducible repeat (first | refine blk_drewN ?_ _ | refine blk_drew ?_ | refine blk_alloc ?_ _)); exact BK263.out⟩, ⟨by repeat (first | (with_reducible first | exact HB.out | apply below_alloc | apply pw_below_drewN | apply below_drew1 | refine below_set ?_ GE254.out | refine below_set ?_ GE255.out | refine below_set ?_ GE263.out) | exact HB.out)⟩⟩
          case rest =>
           clear HC49
           try clear c1
           try clear c2
           try clear p2
           try clear q2
           try clear hx2
           try clear c3
           try clear c4
           try clear c5
           try clear p6
           try clear c8
           try clear c13
           try clear c14
           try clear c18
           try clear c20
           try clear c21
           try clear c22
           try clear c24
           try clear c25
           try clear c26
           try clear c27
           try clear p27
           try clear q27
           try clear hx27
           try clear c29
           try clear c30
           try clear c31
           try clear c34
           try clear c34b0
           try clear c35
           try clear c35b0
           try clear c36
           try clear c37
           try clear c42
           try clear c42b0
           try clear c43
           try clear c43b0
           try clear c44
           try clear c44b0
           try clear c46
           try clear c46b0
           try clear c47
           try clear c47b0
           try clear c50
           try clear c50b0
           try clear c52
           try clear c52b0
           try clear c53
           try clear c53b0
           try clear c54
           try clear c54b0
           try clear c55
           try clear c55b0
           try clear hcz15_0
           try clear hcz15_1
           try clear hcz23_0
           try clear hcz23_1
           try clear hcz27_0
           try clear hcz27_1
           try clear hcz32_0
           try clear hcz32_1
           try clear hcz38_0
           try clear hcz38_1
           try clear hcz9_0
           try clear hcz9_1
           try clear hfz15_0
           try clear hfz15_1
           try clear hfz23_0
           try clear hfz23_1
           try clear hfz27_0
           try clear hfz27_1
           try clear hfz32_0
           try clear hfz32_1
           try clear hfz38_0
           try clear hfz38_1
           try clear hfz9_0
           try clear hfz9_1
           try clear hx272_0
           try clear hx273_0
           try clear hx274_0
           try clear hx275_0
           try clear hx276_0
           try clear p2
           try clear p27
           try clear p272
           try clear p273
           try clear p274
           try clear p275
           try clear p276
           try clear p6
           try clear q2
           try clear q27
           try clear q272
           try clear q273
           try clear q274
           try clear q275
           try clear q276
           obtain ⟨kq, x15_48, rfl, HA, HJ48, HO_9, HO_11, HO_264000, HO_264001, BK254, BK255, BK263, HB⟩ := hcut
           cases kq with
           | zero => exact absurd HA.out (by simp [spec_SlideOut.j3])
           | succ kj48 =>
            have H := HA.out
            clear HA
            simp only [spec_SlideOut.j3] at H
            have HC57 := Aside0.mk H
            clear H
            go_upto_region 14 with (fail)
            go_cut [75] (fun v75 wc => ∃ (kq : Nat) (x75_56 : Bool), v75 = .bool x75_56 ∧ Aside0 (spec_SlideOut.j4 kq x9_2 x11_2 x12_2 x13_2 x14_40 x15_48 x75_56 l0_0 l0_1 = some (r1, r2, r3, r4)) ∧ Aside0 (kq ≤ kj48) ∧ Aside0 (Kd.R (Kd.int .i64) 3 wc w.heap.size (fun k_ => some k_ ≠ (u264000 : Value).ownBlock ∧ some k_ ≠ (u264001 : Value).ownBlock) (.slice (some ad272) x9_2.length co40) x9_2) ∧ Aside0 (Kd.S (Kd.slice 3 (Kd.int .i64)) 22 wc w.heap.size (fun k_ => some k_ ≠ ((.slice (some ad272) x9_2.length co40) : Value).ownBlock ∧ some k_ ≠ (u264000 : Value).ownBlock ∧ some k_ ≠ (u264001 : Value).ownBlock) v270 x11_2) ∧ Aside0 (Kd.R (Kd.int .i64) 3 wc w.heap.size (fun k_ => some k_ ≠ ((.slice (some ad272) x9_2.length co40) : Value).ownBlock ∧ some k_ ≠ (u264001 : Value).ownBlock) u264000 x264000_2) ∧ Aside0 (Kd.R (Kd.int .i64) 3 wc w.heap.size (fun k_ => some k_ ≠ ((.slice (some ad272) x9_2.length co40) : Value).ownBlock ∧ some k_ ≠ (u264000 : Value).ownBlock) u264001 x264001_2) ∧ Aside0 (wc.heap[gb254]? = some (.cells #[(.slice A0_0 l0_0.length c0_0), (.slice A0_1 l0_1.length c0_1)] 28 (0, 0))) ∧ Aside0 (wc.heap[gb255]? = some (.cells #[(.slice none 0 0), (.slice none 0 0)] 28 (0, 0))) ∧ Aside0 (wc.heap[gb263]? = some (.cells #[u264000, u264001] 61 (0, 0))) ∧ Aside0 (Below w.heap.size w wc))
            case first =>
             have H := HC57.out
             clear HC57
             by_cases c58 : x14_40 = 0
             ·rw [if_pos c58] at H
              have c58b0 : (x14_40 == 0) = true := beq_iff_eq.mpr c58
              have c58b1 : (x14_40 != 0) = false := bne_eq_false_iff_eq.mpr c58
              clear c58
              (first | rw [c58b0] | (simp only [i64_w, i32_w]; rw [c58b0]) | skip)
              have H' := Aside0.mk H
              clear H
              go_wp2
              go_meet
              case rel => exact ⟨_, ((x15_48 == 0)), (by first | rfl | (simp; done) | (simp [*]; done)), H', ⟨by have := HJ4.out; have := HK2.out; have := HJ40.out; have := HJ48.out; first | omega | exact Nat.le_refl _⟩, ⟨by (try simp only [hl9_2]); (with_reducible repeat (first | apply Kd.R_alloc | apply Kd.R_drewN | apply Kd.R_drew)); exact HO_9.out⟩, ⟨by (try simp only [hl9_2]); (with_reducible repeat (first | apply Kd.S_alloc | apply Kd.S_drewN | apply Kd.S_drew)); exact HO_11.out⟩, ⟨by (try simp only [hl9_2]); (with_reducible repeat (first | apply Kd.R_alloc | apply Kd.R_drewN | apply Kd.R_drew)); exact HO_264000.out⟩, ⟨by (try simp only [hl9_2]); (with_reducible repeat (first | apply Kd.R_alloc | apply Kd.R_drewN | apply Kd.R_drew)); exact HO_264001.out⟩, ⟨by (try simp only [hl9_2]); (with_reducible repeat (first | refine blk_drewN ?_ _ | refine blk_drew ?_ | refine blk_alloc ?_ _)); exact BK254.out⟩, ⟨by (try simp only [hl9_2]); (with_reducible repeat (first | refine blk_drewN ?_ _ | refine blk_drew ?_ | refine blk_alloc ?_ _)); exact BK255.out⟩, ⟨by (try simp only [hl9_2]); (with_reducible repeat (first | refine blk_drewN ?_ _ | refine blk_drew ?_ | refine blk_alloc ?_ _)); exact BK263.out⟩, ⟨by repeat (first | (with_reducible first | exact HB.out | apply below_alloc | apply pw_below_drewN | apply below_drew1 | refine below_set ?_ GE254.out | refine below_set ?_ GE255.out | refine below_set ?_ GE263.out) | exact HB.out)⟩⟩
             ·rw [if_neg c58] at H
              have c58b0 : (x14_40 == 0) = false := beq_eq_false_iff_ne.mpr c58
              have c58b1 : (x14_40 != 0) = true := bne_iff_ne.mpr c58
              (first | rw [c58b0] | (simp only [i64_w, i32_w]; rw [c58b0]) | skip)
              have H' := Aside0.mk H
              clear H
              go_wp2
              go_meet
              case rel => exact ⟨_, (false), (by first | rfl | (simp; done) | (simp [*]; done)), H', ⟨by have := HJ4.out; have := HK2.out; have := HJ40.out; have := HJ48.out; first | omega | exact Nat.le_refl _⟩, ⟨by (try simp only [hl9_2]); (with_reducible repeat (first | apply Kd.R_alloc | apply Kd.R_drewN | apply Kd.R_drew)); exact HO_9.out⟩, ⟨by (try simp only [hl9_2]); (with_reducible repeat (first | apply Kd.S_alloc | apply Kd.S_drewN | apply Kd.S_drew)); exact HO_11.out⟩, ⟨by (try simp only [hl9_2]); (with_reducible repeat (first | apply Kd.R_alloc | apply Kd.R_drewN | apply Kd.R_drew)); exact HO_264000.out⟩, ⟨by (try simp only [hl9_2]); (with_reducible repeat (first | apply Kd.R_alloc | apply Kd.R_drewN | apply Kd.R_drew)); exact HO_264001.out⟩, ⟨by (try simp only [hl9_2]); (with_reducible repeat (first | refine blk_drewN ?_ _ | refine blk_drew ?_ | refine blk_alloc ?_ _)); exact BK254.out⟩, ⟨by (try simp only [hl9_2]); (with_reducible repeat (first | refine blk_drewN ?_ _ | refine blk_drew ?_ | refine blk_alloc ?_ _)); exact BK255.out⟩, ⟨by (try simp only [hl9_2]); (with_reducible repeat (first | refine blk_drewN ?_ _ | refine blk_drew ?_ | refine blk_alloc ?_ _)); exact BK263.out⟩, ⟨by repeat (first | (with_reducible first | exact HB.out | apply below_alloc | apply pw_below_drewN | apply below_drew1 | refine below_set ?_ GE254.out | refine below_set ?_ GE255.out | refine below_set ?_ GE263.out) | exact HB.out)⟩⟩
            case rest =>
             clear HC57
             try clear c1
             try clear c2
             try clear p2
             try clear q2
             try clear hx2
             try clear c3
             try clear c4
             try clear c5
             try clear p6
             try clear c8
             try clear c13
             try clear c14
             try clear c18
             try clear c20
             try clear c21
             try clear c22
             try clear c24
             try clear c25
             try clear c26
             try clear c27
             try clear p27
             try clear q27
             try clear hx27
             try clear c29
             try clear c30
             try clear c31
             try clear c34
             try clear c34b0
             try clear c35
             try clear c35b0
             try clear c36
             try clear c37
             try clear c42
             try clear c42b0
             try clear c43
             try clear c43b0
             try clear c44
             try clear c44b0
             try clear c46
             try clear c46b0
             try clear c47
             try clear c47b0
             try clear c50
             try clear c50b0
             try clear c52
             try clear c52b0
             try clear c53
             try clear c53b0
             try clear c54
             try clear c54b0
             try clear c55
             try clear c55b0
             try clear c58
             try clear c58b0
             try clear c58b1
             try clear hcz15_0
             try clear hcz15_1
             try clear hcz23_0
             try clear hcz23_1
             try clear hcz27_0
             try clear hcz27_1
             try clear hcz32_0
             try clear hcz32_1
             try clear hcz38_0
             try clear hcz38_1
             try clear hcz9_0
             try clear hcz9_1
             try clear hfz15_0
             try clear hfz15_1
             try clear hfz23_0
             try clear hfz23_1
             try clear hfz27_0
             try clear hfz27_1
             try clear hfz32_0
             try clear hfz32_1
             try clear hfz38_0
             try clear hfz38_1
             try clear hfz9_0
             try clear hfz9_1
             try clear hx272_0
             try clear hx273_0
             try clear hx274_0
             try clear hx275_0
             try clear hx276_0
             try clear p2
             try clear p27
             try clear p272
             try clear p273
             try clear p274
             try clear p275
             try clear p276
             try clear p6
             try clear q2
             try clear q27
             try clear q272
             try clear q273
             try clear q274
             try clear q275
             try clear q276
             obtain ⟨kq, x75_56, rfl, HA, HJ56, HO_9, HO_11, HO_264000, HO_264001, BK254, BK255, BK263, HB⟩ := hcut
             cases kq with
             | zero => exact absurd HA.out (by simp [spec_SlideOut.j4])
             | succ kj56 =>
              have H := HA.out
              clear HA
              simp only [spec_SlideOut.j4] at H
              by_cases c59 : x75_56 = true
              ·subst c59
               have H1 : ((spec_AddBox.f kj56 l0_0 x12_2).bind fun bt293 => (if bt293.2 = true then (if 0 ≤ x12_2 then (if x12_2 < (bt293.1.length : Int) then (if (wrap64 ((rd bt293.1 x12_2) - 1)) = x13_2 then ((spec_l13Tableau.f kj56 x11_2 bt293.1 x9_2).bind fun bt298 => (some (bt298.1, bt298.2, x12_2, true))) else (some (([] : List Int), ([] : List (List Int)), 0, false))) else (none)) else (none)) else (some (([] : List Int), ([] : List (List Int)), 0, false)))) = some (r1, r2, r3, r4) := by rw [if_pos rfl] at H; exact H
               clear H
               have H := H1
               clear H1
               replace H := Option.bind_eq_some_iff.mp H
               obtain ⟨⟨t293, t294⟩, A600, H⟩ := H
               replace H : (if t294 = true then (if 0 ≤ x12_2 then (if x12_2 < (t293.length : Int) then (if (wrap64 ((rd t293 x12_2) - 1)) = x13_2 then ((spec_l13Tableau.f kj56 x11_2 t293 x9_2).bind fun bt298 => (some (bt298.1, bt298.2, x12_2, true))) else (some (([] : List Int), ([] : List (List Int)), 0, false))) else (none)) else (none)) else (some (([] : List Int), ([] : List (List Int)), 0, false))) = some (r1, r2, r3, r4) := H
               have A60 := Aside0.mk A600
               clear A600
               by_cases c61 : t294 = true
               ·subst c61
                have H1 : (if 0 ≤ x12_2 then (if x12_2 < (t293.length : Int) then (if (wrap64 ((rd t293 x12_2) - 1)) = x13_2 then ((spec_l13Tableau.f kj56 x11_2 t293 x9_2).bind fun bt298 => (some (bt298.1, bt298.2, x12_2, true))) else (some (([] : List Int), ([] : List (List Int)), 0, false))) else (none)) else (none)) = some (r1, r2, r3, r4) := by rw [if_pos rfl] at H; exact H
                clear H
                have H := H1
                clear H1
                by_cases c62 : 0 ≤ x12_2
                ·rw [if_pos c62] at H
                 have c62b0 : decide (0 ≤ x12_2) = true := decide_eq_true c62
                 clear c62
                 by_cases c63 : x12_2 < (t293.length : Int)
                 ·rw [if_pos c63] at H
                  have c63b0 : decide (x12_2 < (t293.length : Int)) = true := decide_eq_true c63
                  clear c63
                  by_cases c64 : (wrap64 ((rd t293 x12_2) - 1)) = x13_2
                  ·rw [if_pos c64] at H
                   have c64b0 : ((wrap64 ((rd t293 x12_2) - 1)) == x13_2) = true := beq_iff_eq.mpr c64
                   have c64b1 : ((wrap64 ((rd t293 x12_2) - 1)) != x13_2) = false := bne_eq_false_iff_eq.mpr c64
                   clear c64
                   replace H := Option.bind_eq_some_iff.mp H
                   obtain ⟨⟨t298, t301⟩, A650, H⟩ := H
                   replace H : (some (t298, t301, x12_2, true)) = some (r1, r2, r3, r4) := H
                   have A65 := Aside0.mk A650
                   clear A650
                   simp only [Option.some.injEq, Prod.mk.injEq] at H
                   obtain ⟨rfl, rfl, rfl, rfl⟩ := H
                   have hnb66 := NB254_255.out
                   have hnc66 := NB255_254.out
                   have hnb67 := NB254_263.out
                   have hnc67 := NB263_254.out
                   have hcz68_0 : wc.cell? ⟨gb254, 0, none⟩ = some (.slice A0_0 l0_0.length c0_0) := (blk_cell BK254.out 0).trans rfl
                   have hcz68_1 : wc.cell? ⟨gb254, 1, none⟩ = some (.slice A0_1 l0_1.length c0_1) := (blk_cell BK254.out 1).trans rfl
                   have hfz68_0 := blk_frozen BK254.out 0
                   have hfz68_1 := blk_frozen BK254.out 1
                   go_wp2_with (first | ((with_reducible refine gate_callee (f := 54) rfl ?_); refine zG (some 107) Try.func54 #[.slice A0_0 l0_0.length c0_0, .int .i64 x12_2] ?_; (with_reducible refine (spec_AddBox.calls kj56 _ _ l0_0 x12_2 t293 true _ ?side1 ?side2 A60.out).mono ?_); (case side1 => repeat (first | exact (Kd.C_below HR0_0.out HB.out) | (with_reducible refine Kd.C_alloc ?_ _) | (with_reducible refine Kd.C_drewN ?_ _) | (with_reducible refine Kd.C_drew ?_))); (case side2 => exact HC0_0.out); rintro e w69 ⟨v295, rfl, ho0, hb⟩; refine ⟨_, rfl, ?_⟩; have n0_ := Aside0.mk (Kd.R_elder' (by (with_reducible repeat (first | apply Kd.R_alloc | apply Kd.R_drewN | apply Kd.R_drew)); exact HO_9.out) (Kd.R_base ho0) hb); have n1_ := Aside0.mk (Kd.S_elder' (by (with_reducible repeat (first | apply Kd.S_alloc | apply Kd.S_drewN | apply Kd.S_drew)); exact HO_11.out) (Kd.R_base ho0) hb); have n2_ := Aside0.mk (Kd.R_elder' (by (with_reducible repeat (first | apply Kd.R_alloc | apply Kd.R_drewN | apply Kd.R_drew)); exact HO_264000.out) (Kd.R_base ho0) hb); have n3_ := Aside0.mk (Kd.R_elder' (by (with_reducible repeat (first | apply Kd.R_alloc | apply Kd.R_drewN | apply Kd.R_drew)); exact HO_264001.out) (Kd.R_base ho0) hb); have n4_ := Aside0.mk (Kd.R_lower (Kd.R_new' (Kd.R_new' (Kd.R_new' ho0 (Kd.R_lt (by (with_reducible repeat (first | apply Kd.R_alloc | apply Kd.R_drewN | apply Kd.R_drew)); exact HO_9.out))) (Kd.R_lt (by (with_reducible repeat (first | apply Kd.R_alloc | apply Kd.R_drewN | apply Kd.R_drew)); exact HO_264000.out))) (Kd.R_lt (by (with_reducible repeat (first | apply Kd.R_alloc | apply Kd.R_drewN | apply Kd.R_drew)); exact HO_264001.out))) (below_size (by repeat (first | (with_reducible first | exact HB.out | apply below_alloc | apply pw_below_drewN | apply below_drew1 | refine below_set ?_ GE254.out | refine below_set ?_ GE255.out | refine below_set ?_ GE263.out) | exact HB.out)))); have n5_ := Aside0.mk (blk_below (g := gb254) (o := .cells #[.slice A0_0 l0_0.length c0_0, .slice A0_1 l0_1.length c0_1] 28 (0, 0)) (by (with_reducible repeat (first | refine blk_drewN ?_ _ | refine blk_drew ?_ | refine blk_alloc ?_ _)); exact BK254.out) hb); have n6_ := Aside0.mk (blk_below (g := gb255) (o := .cells #[.slice none 0 0, .slice none 0 0] 28 (0, 0)) (by (with_reducible repeat (first | refine blk_drewN ?_ _ | refine blk_drew ?_ | refine blk_alloc ?_ _)); exact BK255.out) hb); have n7_ := Aside0.mk (blk_below (g := gb263) (o := .cells #[u264000, u264001] 61 (0, 0)) (by (with_reducible repeat (first | refine blk_drewN ?_ _ | refine blk_drew ?_ | refine blk_alloc ?_ _)); exact BK263.out) hb); have n8_ := Aside0.mk (below_step (by repeat (first | (with_reducible first | exact HB.out | apply below_alloc | apply pw_below_drewN | apply below_drew1 | refine below_set ?_ GE254.out | refine below_set ?_ GE255.out | refine below_set ?_ GE263.out) | exact HB.out)) hb); clear HO_9; clear HO_11; clear HO_264000; clear HO_264001; clear BK254; clear BK255; clear BK263; clear HB; have HO_9 := n0_; have HO_11 := n1_; have HO_264000 := n2_; have HO_264001 := n3_; have HO296 := n4_; have BK254 := n5_; have BK255 := n6_; have BK263 := n7_; have HB := n8_; clear n0_ n1_ n2_ n3_ n4_ n5_ n6_ n7_ n8_; (try clear hb); (try clear hb2); (try clear hk); (try clear hi); (try clear ho0); obtain ⟨Ao70, co70, eo70⟩ := Kd.R_slice HO296.out; subst eo70; have p297 : 0 ≤ (x12_2 : Int) := of_decide_eq_true (by first | (with_reducible assumption) | assumption); have q297 : x12_2 < (t293.length : Int) := of_decide_eq_true (by first | (with_reducible assumption) | assumption); obtain ⟨ad297, e297, hx297_0⟩ := Kd.at_int (Kd.R_reads' HO296.out).2.2 x12_2 p297 q297; cases e297; replace p297 := eq_true p297; replace q297 := eq_true q297; obtain ⟨Ao71, co71, eo71⟩ := Kd.S_slice HO_11.out; subst eo71) | ((with_reducible refine gate_callee (f := 56) rfl ?_); refine zG (some 125) Try.func56 #[.slice Ao71 x11_2.length co71, .slice (some ad297) t293.length co70, .slice (some ad272) x9_2.length co40] ?_; (with_reducible refine (spec_l13Tableau.calls kj56 _ _ x11_2 _ _ t293 _ _ x9_2 t298 t301 _ ?side1 ?side2 ?side3 ?side4 ?side5 ?side6 A65.out).mono ?_); (case side1 => repeat (first | exact (Kd.S_reads' HO_11.out).2.2 | (with_reducible refine Kd.C_alloc ?_ _) | (with_reducible refine Kd.C_drewN ?_ _) | (with_reducible refine Kd.C_drew ?_))); (case side2 => exact (Kd.S_reads' HO_11.out).2.1); (case side3 => repeat (first | exact (Kd.R_reads' HO296.out).2.2 | (with_reducible refine Kd.C_alloc ?_ _) | (with_reducible refine Kd.C_drewN ?_ _) | (with_reducible refine Kd.C_drew ?_))); (case side4 => exact (Kd.R_reads' HO296.out).2.1); (case side5 => repeat (first | exact (Kd.R_reads' HO_9.out).2.2 | (with_reducible refine Kd.C_alloc ?_ _) | (with_reducible refine Kd.C_drewN ?_ _) | (with_reducible refine Kd.C_drew ?_))); (case side6 => exact (Kd.R_reads' HO_9.out).2.1); rintro e w72 ⟨v299, v302, rfl, ho0, ho1, hb⟩; refine ⟨_, rfl, ?_⟩; have n0_ := Aside0.mk (Kd.R_elder' (by (with_reducible repeat (first | apply Kd.R_alloc | apply Kd.R_drewN | apply Kd.R_drew)); exact HO_9.out) (Kd.R_base ho0) hb); have n1_ := Aside0.mk (Kd.S_mono (Kd.S_told (Kd.S_told (Kd.S_old (by (with_reducible repeat (first | apply Kd.S_alloc | apply Kd.S_drewN | apply Kd.S_drew)); exact HO_11.out) hb) (Kd.R_base ho0)) (Kd.S_base ho1)) (fun _ h_ => h_.1)); have n2_ := Aside0.mk (Kd.R_elder' (by (with_reducible repeat (first | apply Kd.R_alloc | apply Kd.R_drewN | apply Kd.R_drew)); exact HO_264000.out) (Kd.R_base ho0) hb); have n3_ := Aside0.mk (Kd.R_elder' (by (with_reducible repeat (first | apply Kd.R_alloc | apply Kd.R_drewN | apply Kd.R_drew)); exact HO_264001.out) (Kd.R_base ho0) hb); have n4_ := Aside0.mk (Kd.R_elder' (by (with_reducible repeat (first | apply Kd.R_alloc | apply Kd.R_drewN | apply Kd.R_drew)); exact HO296.out) (Kd.R_base ho0) hb); have n5_ := Aside0.mk (Kd.R_lower (Kd.R_new' (Kd.R_new' (Kd.R_new' (Kd.R_new' ho0 (Kd.R_lt (by (with_reducible repeat (first | apply Kd.R_alloc | apply Kd.R_drewN | apply Kd.R_drew)); exact HO_9.out))) (Kd.R_lt (by (with_reducible repeat (first | apply Kd.R_alloc | apply Kd.R_drewN | apply Kd.R_drew)); exact HO_264000.out))) (Kd.R_lt (by (with_reducible repeat (first | apply Kd.R_alloc | apply Kd.R_drewN | apply Kd.R_drew)); exact HO_264001.out))) (Kd.R_lt (by (with_reducible repeat (first | apply Kd.R_alloc | apply Kd.R_drewN | apply Kd.R_drew)); exact HO296.out))) (below_size (by repeat (first | (with_reducible first | exact HB.out | apply below_alloc | apply pw_below_drewN | apply below_drew1 | refine below_set ?_ GE254.out | refine below_set ?_ GE255.out | refine below_set ?_ GE263.out) | exact HB.out)))); have n6_ := Aside0.mk (Kd.S_lower (Kd.S_new' (Kd.S_new' (Kd.S_new' (Kd.S_new' (Kd.S_new' ho1 (Kd.R_lt (by (with_reducible repeat (first | apply Kd.R_alloc | apply Kd.R_drewN | apply Kd.R_drew)); exact HO_9.out))) (Kd.S_lt (by (with_reducible repeat (first | apply Kd.S_alloc | apply Kd.S_drewN | apply Kd.S_drew)); exact HO_11.out))) (Kd.R_lt (by (with_reducible repeat (first | apply Kd.R_alloc | apply Kd.R_drewN | apply Kd.R_drew)); exact HO_264000.out))) (Kd.R_lt (by (with_reducible repeat (first | apply Kd.R_alloc | apply Kd.R_drewN | apply Kd.R_drew)); exact HO_264001.out))) (Kd.R_lt (by (with_reducible repeat (first | apply Kd.R_alloc | apply Kd.R_drewN | apply Kd.R_drew)); exact HO296.out))) (below_size (by repeat (first | (with_reducible first | exact HB.out | apply below_alloc | apply pw_below_drewN | apply below_drew1 | refine below_set ?_ GE254.out | refine below_set ?_ GE255.out | refine below_set ?_ GE263.out) | exact HB.out)))); have n7_ := Aside0.mk (blk_below (g := gb254) (o := .cells #[.slice A0_0 l0_0.length c0_0, .slice A0_1 l0_1.length c0_1] 28 (0, 0)) (by (with_reducible repeat (first | refine blk_drewN ?_ _ | refine blk_drew ?_ | refine blk_alloc ?_ _)); exact BK254.out) hb); have n8_ := Aside0.mk (blk_below (g := gb255) (o := .cells #[.slice none 0 0, .slice none 0 0] 28 (0, 0)) (by (with_reducible repeat (first | refine blk_drewN ?_ _ | refine blk_drew ?_ | refine blk_alloc ?_ _)); exact BK255.out) hb); have n9_ := Aside0.mk (blk_below (g := gb263) (o := .cells #[u264000, u264001] 61 (0, 0)) (by (with_reducible repeat (first | refine blk_drewN ?_ _ | refine blk_drew ?_ | refine blk_alloc ?_ _)); exact BK263.out) hb); have n10_ := Aside0.mk (below_step (by repeat (first | (with_reducible first | exact HB.out | apply below_alloc | apply pw_below_drewN | apply below_drew1 | refine below_set ?_ GE254.out | refine below_set ?_ GE255.out | refine below_set ?_ GE263.out) | exact HB.out)) hb); clear HO_9; clear HO_11; clear HO_264000; clear HO_264001; clear HO296; clear BK254; clear BK255; clear BK263; clear HB; have HO_9 := n0_; have HO_11 := n1_; have HO_264000 := n2_; have HO_264001 := n3_; have HO296 := n4_; have HO300 := n5_; have HO303 := n6_; have BK254 := n7_; have BK255 := n8_; have BK263 := n9_; have HB := n10_; clear n0_ n1_ n2_ n3_ n4_ n5_ n6_ n7_ n8_ n9_ n10_; (try clear hb); (try clear hb2); (try clear hk); (try clear hi); (try clear ho0); (try clear ho1); obtain ⟨Ao73, co73, eo73⟩ := Kd.R_slice HO300.out; subst eo73; have hnb74 := NB255_263.out; have hnc74 := NB263_255.out; have hcz75_0 : w72.cell? ⟨gb255, 0, none⟩ = some (.slice none 0 0) := (blk_cell BK255.out 0).trans rfl; have hcz75_1 : w72.cell? ⟨gb255, 1, none⟩ = some (.slice none 0 0) := (blk_cell BK255.out 1).trans rfl; have hfz75_0 := blk_frozen BK255.out 0; have hfz75_1 := blk_frozen BK255.out 1; obtain ⟨Ao76, co76, eo76⟩ := Kd.S_slice HO303.out; subst eo76))
                   refine bodyPost_ret (results_ctt rfl _ _ gb255 28 #[.slice Ao73 t298.length co73, .slice Ao76 t301.length co76] (0, 0) _ rfl (by (with_reducible repeat (first | refine blk_drewN ?_ _ | refine blk_drew ?_ | refine blk_alloc ?_ _)); refine blk_put (cs := #[.slice Ao73 t298.length co73, .slice none 0 0]) ?_ 1 _ rfl; (with_reducible repeat (first | refine blk_drewN ?_ _ | refine blk_drew ?_ | refine blk_alloc ?_ _)); refine blk_put (cs := #[.slice none 0 0, .slice none 0 0]) ?_ 0 _ rfl; (with_reducible repeat (first | refine blk_drewN ?_ _ | refine blk_drew ?_ | refine blk_alloc ?_ _)); exact BK255.out) Try.underlying28 rfl (by kernel_rfl)) rfl ?_
                   exact ⟨_, _, by first | rfl | (simp [errW_none, errW_some] <;> rfl) | (simp [*, errW_none, errW_some] <;> rfl), by (with_reducible repeat (first | apply Kd.R_alloc | apply Kd.R_drewN | apply Kd.R_drew)); exact Kd.R_mono (Kd.R_far (p := ⟨gb255, 1, none⟩) (Kd.R_far (p := ⟨gb255, 0, none⟩) (Kd.R_types HO300.out BK255.out (by decide)) (fun _ hk => hk.2) (.slice Ao73 t298.length co73)) (fun _ hk => hk.2) (.slice Ao76 t301.length co76)) (fun _ hk => trivial), by (with_reducible repeat (first | apply Kd.S_alloc | apply Kd.S_drewN | apply Kd.S_drew)); exact Kd.S_mono (Kd.S_far (p := ⟨gb255, 1, none⟩) (Kd.S_far (p := ⟨gb255, 0, none⟩) (Kd.S_types HO303.out BK255.out (by decide)) (fun _ hk => hk.2) (.slice Ao73 t298.length co73)) (fun _ hk => hk.2) (.slice Ao76 t301.length co76)) (fun _ hk => hk.1.1.1.1.1.1), by repeat (first | (with_reducible first | exact HB.out | apply below_alloc | apply pw_below_drewN | apply below_drew1 | refine below_set ?_ GE254.out | refine below_set ?_ GE255.out | refine below_set ?_ GE263.out) | exact HB.out)⟩
                  ·rw [if_neg c64] at H
                   have c64b0 : ((wrap64 ((rd t293 x12_2) - 1)) == x13_2) = false := beq_eq_false_iff_ne.mpr c64
                   have c64b1 : ((wrap64 ((rd t293 x12_2) - 1)) != x13_2) = true := bne_iff_ne.mpr c64
                   simp only [Option.some.injEq, Prod.mk.injEq] at H
                   obtain ⟨rfl, rfl, rfl, rfl⟩ := H
                   have hnb77 := NB254_255.out
                   have hnc77 := NB255_254.out
                   have hnb78 := NB254_263.out
                   have hnc78 := NB263_254.out
                   have hcz79_0 : wc.cell? ⟨gb254, 0, none⟩ = some (.slice A0_0 l0_0.length c0_0) := (blk_cell BK254.out 0).trans rfl
                   have hcz79_1 : wc.cell? ⟨gb254, 1, none⟩ = some (.slice A0_1 l0_1.length c0_1) := (blk_cell BK254.out 1).trans rfl
                   have hfz79_0 := blk_frozen BK254.out 0
                   have hfz79_1 := blk_frozen BK254.out 1
                   go_wp2_with (first | ((with_reducible refine gate_callee (f := 54) rfl ?_); refine zG (some 107) Try.func54 #[.slice A0_0 l0_0.length c0_0, .int .i64 x12_2] ?_; (with_reducible refine (spec_AddBox.calls kj56 _ _ l0_0 x12_2 t293 true _ ?side1 ?side2 A60.out).mono ?_); (case side1 => repeat (first | exact (Kd.C_below HR0_0.out HB.out) | (with_reducible refine Kd.C_alloc ?_ _) | (with_reducible refine Kd.C_drewN ?_ _) | (with_reducible refine Kd.C_drew ?_))); (case side2 => exact HC0_0.out); rintro e w80 ⟨v295, rfl, ho0, hb⟩; refine ⟨_, rfl, ?_⟩; have n0_ := Aside0.mk (Kd.R_elder' (by (with_reducible repeat (first | apply Kd.R_alloc | apply Kd.R_drewN | apply Kd.R_drew)); exact HO_9.out) (Kd.R_base ho0) hb); have n1_ := Aside0.mk (Kd.S_elder' (by (with_reducible repeat (first | apply Kd.S_alloc | apply Kd.S_drewN | apply Kd.S_drew)); exact HO_11.out) (Kd.R_base ho0) hb); have n2_ := Aside0.mk (Kd.R_elder' (by (with_reducible repeat (first | apply Kd.R_alloc | apply Kd.R_drewN | apply Kd.R_drew)); exact HO_264000.out) (Kd.R_base ho0) hb); have n3_ := Aside0.mk (Kd.R_elder' (by (with_reducible repeat (first | apply Kd.R_alloc | apply Kd.R_drewN | apply Kd.R_drew)); exact HO_264001.out) (Kd.R_base ho0) hb); have n4_ := Aside0.mk (Kd.R_lower (Kd.R_new' (Kd.R_new' (Kd.R_new' ho0 (Kd.R_lt (by (with_reducible repeat (first | apply Kd.R_alloc | apply Kd.R_drewN | apply Kd.R_drew)); exact HO_9.out))) (Kd.R_lt (by (with_reducible repeat (first | apply Kd.R_alloc | apply Kd.R_drewN | apply Kd.R_drew)); exact HO_264000.out))) (Kd.R_lt (by (with_reducible repeat (first | apply Kd.R_alloc | apply Kd.R_drewN | apply Kd.R_drew)); exact HO_264001.out))) (below_size (by repeat (first | (with_reducible first | exact HB.out | apply below_alloc | apply pw_below_drewN | apply below_drew1 | refine below_set ?_ GE254.out | refine below_set ?_ GE255.out | refine below_set ?_ GE263.out) | exact HB.out)))); have n5_ := Aside0.mk (blk_below (g := gb254) (o := .cells #[.slice A0_0 l0_0.length c0_0, .slice A0_1 l0_1.length c0_1] 28 (0, 0)) (by (with_reducible repeat (first | refine blk_drewN ?_ _ | refine blk_drew ?_ | refine blk_alloc ?_ _)); exact BK254.out) hb); have n6_ := Aside0.mk (blk_below (g := gb255) (o := .cells #[.slice none 0 0, .slice none 0 0] 28 (0, 0)) (by (with_reducible repeat (first | refine blk_drewN ?_ _ | refine blk_drew ?_ | refine blk_alloc ?_ _)); exact BK255.out) hb); have n7_ := Aside0.mk (blk_below (g := gb263) (o := .cells #[u264000, u264001] 61 (0, 0)) (by (with_reducible repeat (first | refine blk_drewN ?_ _ | refine blk_drew ?_ | refine blk_alloc ?_ _)); exact BK263.out) hb); have n8_ := Aside0.mk (below_step (by repeat (first | (with_reducible first | exact HB.out | apply below_alloc | apply pw_below_drewN | apply below_drew1 | refine below_set ?_ GE254.out | refine below_set ?_ GE255.out | refine below_set ?_ GE263.out) | exact HB.out)) hb); clear HO_9; clear HO_11; clear HO_264000; clear HO_264001; clear BK254; clear BK255; clear BK263; clear HB; have HO_9 := n0_; have HO_11 := n1_; have HO_264000 := n2_; have HO_264001 := n3_; have HO296 := n4_; have BK254 := n5_; have BK255 := n6_; have BK263 := n7_; have HB := n8_; clear n0_ n1_ n2_ n3_ n4_ n5_ n6_ n7_ n8_; (try clear hb); (try clear hb2); (try clear hk); (try clear hi); (try clear ho0); obtain ⟨Ao81, co81, eo81⟩ := Kd.R_slice HO296.out; subst eo81; have p297 : 0 ≤ (x12_2 : Int) := of_decide_eq_true (by first | (with_reducible assumption) | assumption); have q297 : x12_2 < (t293.length : Int) := of_decide_eq_true (by first | (with_reducible assumption) | assumption); obtain ⟨ad297, e297, hx297_0⟩ := Kd.at_int (Kd.R_reads' HO296.out).2.2 x12_2 p297 q297; cases e297; replace p297 := eq_true p297; replace q297 := eq_true q297; have hnb82 := NB255_263.out; have hnc82 := NB263_255.out; have hcz83_0 : w80.cell? ⟨gb255, 0, none⟩ = some (.slice none 0 0) := (blk_cell BK255.out 0).trans rfl; have hcz83_1 : w80.cell? ⟨gb255, 1, none⟩ = some (.slice none 0 0) := (blk_cell BK255.out 1).trans rfl; have hfz83_0 := blk_frozen BK255.out 0; have hfz83_1 := blk_frozen BK255.out 1))
                   refine bodyPost_ret (results_ctt rfl _ _ gb255 28 #[.slice none 0 0, .slice none 0 0] (0, 0) _ rfl (by (with_reducible repeat (first | refine blk_drewN ?_ _ | refine blk_drew ?_ | refine blk_alloc ?_ _)); refine blk_put (cs := #[.slice none 0 0, .slice none 0 0]) ?_ 1 _ rfl; (with_reducible repeat (first | refine blk_drewN ?_ _ | refine blk_drew ?_ | refine blk_alloc ?_ _)); refine blk_put (cs := #[.slice none 0 0, .slice none 0 0]) ?_ 0 _ rfl; (with_reducible repeat (first | refine blk_drewN ?_ _ | refine blk_drew ?_ | refine blk_alloc ?_ _)); exact BK255.out) Try.underlying28 rfl (by kernel_rfl)) rfl ?_
                   exact ⟨_, _, by first | rfl | (simp [errW_none, errW_some] <;> rfl) | (simp [*, errW_none, errW_some] <;> rfl), by first | exact Kd.R_nil _ _ _ _ _ | exact Kd.N_nil _ _ _ _ _ | exact Kd.V_nil _ _ _ _ _ | exact Kd.Q_nil _ _ _ _ _ | exact Kd.S_nil _ _ _ _ _, by first | exact Kd.S_nil _ _ _ _ _ | exact Kd.N_nil _ _ _ _ _ | exact Kd.V_nil _ _ _ _ _ | exact Kd.Q_nil _ _ _ _ _ | exact Kd.R_nil _ _ _ _ _, by repeat (first | (with_reducible first | exact HB.out | apply below_alloc | apply pw_below_drewN | apply below_drew1 | refine below_set ?_ GE254.out | refine below_set ?_ GE255.out | refine below_set ?_ GE263.out) | exact HB.out)⟩
                 ·rw [if_neg c63] at H
                  exact absurd H (by simp)
                ·rw [if_neg c62] at H
                 exact absurd H (by simp)
               ·replace c61 := Bool.eq_false_iff.mpr c61
                subst c61
                have H1 : (some (([] : List Int), ([] : List (List Int)), 0, false)) = some (r1, r2, r3, r4) := by rw [if_neg (show ¬ (false = true) by decide)] at H; exact H
                clear H
                have H := H1
                clear H1
                simp only [Option.some.injEq, Prod.mk.injEq] at H
                obtain ⟨rfl, rfl, rfl, rfl⟩ := H
                have hnb84 := NB254_255.out
                have hnc84 := NB255_254.out
                have hnb85 := NB254_263.out
                have hnc85 := NB263_254.out
                have hcz86_0 : wc.cell? ⟨gb254, 0, none⟩ = some (.slice A0_0 l0_0.length c0_0) := (blk_cell BK254.out 0).trans rfl
                have hcz86_1 : wc.cell? ⟨gb254, 1, none⟩ = some (.slice A0_1 l0_1.length c0_1) := (blk_cell BK254.out 1).trans rfl
                have hfz86_0 := blk_frozen BK254.out 0
                have hfz86_1 := blk_frozen BK254.out 1
                go_wp2_with (first | ((with_reducible refine gate_callee (f := 54) rfl ?_); refine zG (some 107) Try.func54 #[.slice A0_0 l0_0.length c0_0, .int .i64 x12_2] ?_; (with_reducible refine (spec_AddBox.calls kj56 _ _ l0_0 x12_2 t293 false _ ?side1 ?side2 A60.out).mono ?_); (case side1 => repeat (first | exact (Kd.C_below HR0_0.out HB.out) | (with_reducible refine Kd.C_alloc ?_ _) | (with_reducible refine Kd.C_drewN ?_ _) | (with_reducible refine Kd.C_drew ?_))); (case side2 => exact HC0_0.out); rintro e w87 ⟨v295, rfl, ho0, hb⟩; refine ⟨_, rfl, ?_⟩; have n0_ := Aside0.mk (Kd.R_elder' (by (with_reducible repeat (first | apply Kd.R_alloc | apply Kd.R_drewN | apply Kd.R_drew)); exact HO_9.out) (Kd.R_base ho0) hb); have n1_ := Aside0.mk (Kd.S_elder' (by (with_reducible repeat (first | apply Kd.S_alloc | apply Kd.S_drewN | apply Kd.S_drew)); exact HO_11.out) (Kd.R_base ho0) hb); have n2_ := Aside0.mk (Kd.R_elder' (by (with_reducible repeat (first | apply Kd.R_alloc | apply Kd.R_drewN | apply Kd.R_drew)); exact HO_264000.out) (Kd.R_base ho0) hb); have n3_ := Aside0.mk (Kd.R_elder' (by (with_reducible repeat (first | apply Kd.R_alloc | apply Kd.R_drewN | apply Kd.R_drew)); exact HO_264001.out) (Kd.R_base ho0) hb); have n4_ := Aside0.mk (Kd.R_lower (Kd.R_new' (Kd.R_new' (Kd.R_new' ho0 (Kd.R_lt (by (with_reducible repeat (first | apply Kd.R_alloc | apply Kd.R_drewN | apply Kd.R_drew)); exact HO_9.out))) (Kd.R_lt (by (with_reducible repeat (first | apply Kd.R_alloc | apply Kd.R_drewN | apply Kd.R_drew)); exact HO_264000.out))) (Kd.R_lt (by (with_reducible repeat (first | apply Kd.R_alloc | apply Kd.R_drewN | apply Kd.R_drew)); exact HO_264001.out))) (below_size (by repeat (first | (with_reducible first | exact HB.out | apply below_alloc | apply pw_below_drewN | apply below_drew1 | refine below_set ?_ GE254.out | refine below_set ?_ GE255.out | refine below_set ?_ GE263.out) | exact HB.out)))); have n5_ := Aside0.mk (blk_below (g := gb254) (o := .cells #[.slice A0_0 l0_0.length c0_0, .slice A0_1 l0_1.length c0_1] 28 (0, 0)) (by (with_reducible repeat (first | refine blk_drewN ?_ _ | refine blk_drew ?_ | refine blk_alloc ?_ _)); exact BK254.out) hb); have n6_ := Aside0.mk (blk_below (g := gb255) (o := .cells #[.slice none 0 0, .slice none 0 0] 28 (0, 0)) (by (with_reducible repeat (first | refine blk_drewN ?_ _ | refine blk_drew ?_ | refine blk_alloc ?_ _)); exact BK255.out) hb); have n7_ := Aside0.mk (blk_below (g := gb263) (o := .cells #[u264000, u264001] 61 (0, 0)) (by (with_reducible repeat (first | refine blk_drewN ?_ _ | refine blk_drew ?_ | refine blk_alloc ?_ _)); exact BK263.out) hb); have n8_ := Aside0.mk (below_step (by repeat (first | (with_reducible first | exact HB.out | apply below_alloc | apply pw_below_drewN | apply below_drew1 | refine below_set ?_ GE254.out | refine below_set ?_ GE255.out | refine below_set ?_ GE263.out) | exact HB.out)) hb); clear HO_9; clear HO_11; clear HO_264000; clear HO_264001; clear BK254; clear BK255; clear BK263; clear HB; have HO_9 := n0_; have HO_11 := n1_; have HO_264000 := n2_; have HO_264001 := n3_; have HO296 := n4_; have BK254 := n5_; have BK255 := n6_; have BK263 := n7_; have HB := n8_; clear n0_ n1_ n2_ n3_ n4_ n5_ n6_ n7_ n8_; (try clear hb); (try clear hb2); (try clear hk); (try clear hi); (try clear ho0); have hnb88 := NB255_263.out; have hnc88 := NB263_255.out; have hcz89_0 : w87.cell? ⟨gb255, 0, none⟩ = some (.slice none 0 0) := (blk_cell BK255.out 0).trans rfl; have hcz89_1 : w87.cell? ⟨gb255, 1, none⟩ = some (.slice none 0 0) := (blk_cell BK255.out 1).trans rfl; have hfz89_0 := blk_frozen BK255.out 0; have hfz89_1 := blk_frozen BK255.out 1))
                refine bodyPost_ret (results_ctt rfl _ _ gb255 28 #[.slice none 0 0, .slice none 0 0] (0, 0) _ rfl (by (with_reducible repeat (first | refine blk_drewN ?_ _ | refine blk_drew ?_ | refine blk_alloc ?_ _)); refine blk_put (cs := #[.slice none 0 0, .slice none 0 0]) ?_ 1 _ rfl; (with_reducible repeat (first | refine blk_drewN ?_ _ | refine blk_drew ?_ | refine blk_alloc ?_ _)); refine blk_put (cs := #[.slice none 0 0, .slice none 0 0]) ?_ 0 _ rfl; (with_reducible repeat (first | refine blk_drewN ?_ _ | refine blk_drew ?_ | refine blk_alloc ?_ _)); exact BK255.out) Try.underlying28 rfl (by kernel_rfl)) rfl ?_
                exact ⟨_, _, by first | rfl | (simp [errW_none, errW_some] <;> rfl) | (simp [*, errW_none, errW_some] <;> rfl), by first | exact Kd.R_nil _ _ _ _ _ | exact Kd.N_nil _ _ _ _ _ | exact Kd.V_nil _ _ _ _ _ | exact Kd.Q_nil _ _ _ _ _ | exact Kd.S_nil _ _ _ _ _, by first | exact Kd.S_nil _ _ _ _ _ | exact Kd.N_nil _ _ _ _ _ | exact Kd.V_nil _ _ _ _ _ | exact Kd.Q_nil _ _ _ _ _ | exact Kd.R_nil _ _ _ _ _, by repeat (first | (with_reducible first | exact HB.out | apply below_alloc | apply pw_below_drewN | apply below_drew1 | refine below_set ?_ GE254.out | refine below_set ?_ GE255.out | refine below_set ?_ GE263.out) | exact HB.out)⟩
              ·replace c59 := Bool.eq_false_iff.mpr c59
               subst c59
               have H1 : (if x15_48 ≥ x14_40 then (if 0 ≤ x12_2 then (if x12_2 < (x11_2.length : Int) then (if 0 ≤ x13_2 then (if x13_2 < ((rd_L1 x11_2 x12_2).length : Int) then ((some (x11_2.set (x12_2 : Int).toNat ((rd_L1 x11_2 x12_2).set (x13_2 : Int).toNat x15_48) : List (List Int))).bind fun y280 => (if 0 ≤ (wrap64 (x12_2 - 1)) then (if (wrap64 (x12_2 - 1)) < (x11_2.length : Int) then (if x13_2 < ((rd_L1 y280 (wrap64 (x12_2 - 1))).length : Int) then (spec_SlideOut.l0 kj56 x9_2 (y280.set ((wrap64 (x12_2 - 1)) : Int).toNat ((rd_L1 y280 (wrap64 (x12_2 - 1))).set (x13_2 : Int).toNat 0)) (wrap64 (x12_2 - 1)) x13_2 l0_0 l0_1) else (none)) else (none)) else (none))) else (none)) else (none)) else (none)) else (none)) else (if 0 ≤ x12_2 then (if x12_2 < (x11_2.length : Int) then (if 0 ≤ x13_2 then (if x13_2 < ((rd_L1 x11_2 x12_2).length : Int) then ((some (x11_2.set (x12_2 : Int).toNat ((rd_L1 x11_2 x12_2).set (x13_2 : Int).toNat x14_40) : List (List Int))).bind fun y288 => (if 0 ≤ (wrap64 (x13_2 - 1)) then (if (wrap64 (x13_2 - 1)) < ((rd_L1 y288 x12_2).length : Int) then (spec_SlideOut.l0 kj56 x9_2 (y288.set (x12_2 : Int).toNat ((rd_L1 y288 x12_2).set ((wrap64 (x13_2 - 1)) : Int).toNat 0)) x12_2 (wrap64 (x13_2 - 1)) l0_0 l0_1) else (none)) else (none))) else (none)) else (none)) else (none)) else (none))) = some (r1, r2, r3, r4) := by rw [if_neg (show ¬ (false = true) by decide)] at H; exact H
               clear H
               have H := H1
               clear H1
               by_cases c90 : x15_48 ≥ x14_40
               ·rw [if_pos c90] at H
                have c90b0 : decide (x14_40 ≤ x15_48) = true := decide_eq_true c90
                clear c90
                by_cases c91 : 0 ≤ x12_2
                ·rw [if_pos c91] at H
                 have c91b0 : decide (0 ≤ x12_2) = true := decide_eq_true c91
                 clear c91
                 by_cases c92 : x12_2 < (x11_2.length : Int)
                 ·rw [if_pos c92] at H
                  have c92b0 : decide (x12_2 < (x11_2.length : Int)) = true := decide_eq_true c92
                  clear c92
                  by_cases c93 : 0 ≤ x13_2
                  ·rw [if_pos c93] at H
                   have c93b0 : decide (0 ≤ x13_2) = true := decide_eq_true c93
                   clear c93
                   by_cases c94 : x13_2 < ((rd_L1 x11_2 x12_2).length : Int)
                   ·rw [if_pos c94] at H
                    have c94b0 : decide (x13_2 < ((rd_L1 x11_2 x12_2).length : Int)) = true := decide_eq_true c94
                    clear c94
                    obtain ⟨y278, hy278⟩ : ∃ y_ : List Int, y_ = ((rd_L1 x11_2 x12_2).set (x13_2 : Int).toNat x15_48) := ⟨_, rfl⟩
                    replace H : ((some (x11_2.set (x12_2 : Int).toNat y278 : List (List Int))).bind fun y280 => (if 0 ≤ (wrap64 (x12_2 - 1)) then (if (wrap64 (x12_2 - 1)) < (x11_2.length : Int) then (if x13_2 < ((rd_L1 y280 (wrap64 (x12_2 - 1))).length : Int) then (spec_SlideOut.l0 kj56 x9_2 (y280.set ((wrap64 (x12_2 - 1)) : Int).toNat ((rd_L1 y280 (wrap64 (x12_2 - 1))).set (x13_2 : Int).toNat 0)) (wrap64 (x12_2 - 1)) x13_2 l0_0 l0_1) else (none)) else (none)) else (none))) = some (r1, r2, r3, r4) := by first | (rw [hy278]; with_reducible exact H) | (have H2_ := (Option.bind_some _ _).symm.trans H; rw [hy278]; with_reducible exact H2_) | (have H2_ := (Option.bind_some _ _).symm.trans H; with_reducible exact H2_) | with_reducible exact H | (rw [hy278]; exact H) | exact H
                    have Ny278 := Aside0.mk hy278
                    clear hy278
                    obtain ⟨y280, hy280⟩ : ∃ y_ : List (List Int), y_ = (x11_2.set (x12_2 : Int).toNat y278) := ⟨_, rfl⟩
                    replace H : (if 0 ≤ (wrap64 (x12_2 - 1)) then (if (wrap64 (x12_2 - 1)) < (x11_2.length : Int) then (if x13_2 < ((rd_L1 y280 (wrap64 (x12_2 - 1))).length : Int) then (spec_SlideOut.l0 kj56 x9_2 (y280.set ((wrap64 (x12_2 - 1)) : Int).toNat ((rd_L1 y280 (wrap64 (x12_2 - 1))).set (x13_2 : Int).toNat 0)) (wrap64 (x12_2 - 1)) x13_2 l0_0 l0_1) else (none)) else (none)) else (none)) = some (r1, r2, r3, r4) := by first | (rw [hy280]; with_reducible exact H) | (have H2_ := (Option.bind_some _ _).symm.trans H; rw [hy280]; with_reducible exact H2_) | (have H2_ := (Option.bind_some _ _).symm.trans H; with_reducible exact H2_) | with_reducible exact H | (rw [hy280]; exact H) | exact H
                    have Ny280 := Aside0.mk hy280
                    clear hy280
                    obtain ⟨ji96, hji96⟩ : ∃ j_ : Int, (wrap64 (x12_2 - 1)) = j_ := ⟨_, rfl⟩
                    replace H : (if 0 ≤ (ji96) then (if (ji96) < (x11_2.length : Int) then (if x13_2 < ((rd_L1 y280 (ji96)).length : Int) then (spec_SlideOut.l0 kj56 x9_2 (y280.set ((ji96) : Int).toNat ((rd_L1 y280 (ji96)).set (x13_2 : Int).toNat 0)) ji96 x13_2 l0_0 l0_1) else (none)) else (none)) else (none)) = some (r1, r2, r3, r4) := by first | (rw [hji96] at H; exact H) | (simp only [hji96] at H ⊢; exact H)
                    have hji96w : (IntKind.i64.wrap (x12_2 - 1)) = ji96 := (i64_w _).trans hji96
                    by_cases c97 : 0 ≤ (ji96)
                    ·rw [if_pos c97] at H
                     have c97b0 : decide (0 ≤ (ji96)) = true := decide_eq_true c97
                     clear c97
                     by_cases c98 : (ji96) < (x11_2.length : Int)
                     ·rw [if_pos c98] at H
                      have c98b0 : decide ((ji96) < (x11_2.length : Int)) = true := decide_eq_true c98
                      clear c98
                      by_cases c99 : x13_2 < ((rd_L1 y280 (ji96)).length : Int)
                      ·rw [if_pos c99] at H
                       have c99b0 : decide (x13_2 < ((rd_L1 y280 (ji96)).length : Int)) = true := decide_eq_true c99
                       clear c99
                       obtain ⟨y282, hy282⟩ : ∃ y_ : List Int, y_ = ((rd_L1 y280 (ji96)).set (x13_2 : Int).toNat 0) := ⟨_, rfl⟩
                       replace H : (spec_SlideOut.l0 kj56 x9_2 (y280.set ((ji96) : Int).toNat y282) ji96 x13_2 l0_0 l0_1) = some (r1, r2, r3, r4) := by first | (rw [hy282]; with_reducible exact H) | (have H2_ := (Option.bind_some _ _).symm.trans H; rw [hy282]; with_reducible exact H2_) | (have H2_ := (Option.bind_some _ _).symm.trans H; with_reducible exact H2_) | with_reducible exact H | (rw [hy282]; exact H) | exact H
                       have Ny282 := Aside0.mk hy282
                       clear hy282
                       obtain ⟨y284, hy284⟩ : ∃ y_ : List (List Int), y_ = (y280.set ((ji96) : Int).toNat y282) := ⟨_, rfl⟩
                       replace H : (spec_SlideOut.l0 kj56 x9_2 y284 ji96 x13_2 l0_0 l0_1) = some (r1, r2, r3, r4) := by first | (rw [hy284]; with_reducible exact H) | (have H2_ := (Option.bind_some _ _).symm.trans H; rw [hy284]; with_reducible exact H2_) | (have H2_ := (Option.bind_some _ _).symm.trans H; with_reducible exact H2_) | with_reducible exact H | (rw [hy284]; exact H) | exact H
                       have Ny284 := Aside0.mk hy284
                       clear hy284
                       have H' := Aside0.mk H
                       clear H
                       obtain ⟨Ao101, co101, eo101⟩ := Kd.S_slice HO_11.out
                       subst eo101
                       have p277 : 0 ≤ (x12_2 : Int) := of_decide_eq_true (by first | (with_reducible assumption) | assumption)
                       have q277 : x12_2 < (x11_2.length : Int) := of_decide_eq_true (by first | (with_reducible assumption) | assumption)
                       obtain ⟨ad277, A277_0, c277_0, e277, hx277_0, hl277_0, hi277_0⟩ := at_L1 (Kd.S_reads' HO_11.out).2.2 x12_2 p277 q277
                       cases e277
                       obtain ⟨ce277, hce277, hMe277, hcc277⟩ := Kd.S_get HO_11.out [] x12_2 p277 (by first | exact q277 | exact of_decide_eq_true (by first | (with_reducible assumption) | assumption) | (have e_ := (Kd.S_reads' HO_11.out).1; omega))
                       obtain ⟨ve277_0, rfl, ge277_0⟩ := hMe277
                       have hv277_0 := hcc277 0 _ rfl
                       rw [Nat.add_zero, show ((Kd.slice 3 (Kd.int .i64))).sz = 1 from rfl, Nat.mul_one] at hv277_0
                       replace hv277_0 := Option.some.inj (hv277_0.symm.trans hx277_0)
                       rw [hv277_0] at ge277_0
                       have HL277_0 := Aside0.mk (show Kd.R (Kd.int .i64) 3 _ _ _ _ (rd_L1 x11_2 x12_2) from ge277_0)
                       clear hv277_0 ge277_0
                       have HX277_0 := Aside0.mk hx277_0
                       clear hcc277 hce277
                       have HR277_0 := Aside0.mk hi277_0
                       have HC277_0 := Aside0.mk hl277_0
                       clear hi277_0 hl277_0
                       replace p277 := eq_true p277
                       replace q277 := eq_true q277
                       have p95 : 0 ≤ (x13_2 : Int) := of_decide_eq_true (by first | (with_reducible assumption) | assumption)
                       have q95 : (x13_2 : Int) < (((rd_L1 x11_2 x12_2).length : Int) : Int) := of_decide_eq_true (by first | (with_reducible assumption) | assumption)
                       obtain ⟨go95, co95, eo95, gb95, gl95, cl95, HG95⟩ := Kd.R_form HL277_0.out (by omega)
                       (first | cases eo95 | (injection eo95 with ea_ en_ ec_; (first | subst ea_ | (injection ea_ with ea_; subst ea_)); subst ec_; clear en_))
                       have GB95 := Aside0.mk gb95
                       have GG95 := Aside0.mk HG95
                       clear gb95 gl95 HG95
                       obtain ⟨hx95_0, hf95_0⟩ := Kd.R_celln 0 HL277_0.out (x13_2 : Int) p95 q95
                       replace p95 := eq_true p95
                       replace q95 := eq_true q95
                       have hq102 : (x12_2 : Int) < (x11_2.length : Int) := (by have h_ : (x12_2 : Int) < ((x11_2.length : Int) : Int) := of_decide_eq_true (by first | (with_reducible assumption) | assumption); first | exact h_ | (have e_ := (Kd.S_reads' HO_11.out).1; omega) | simpa only [List.length_set, List.length_set] using h_)
                       obtain ⟨oki102, ce102, hcl102, hM102, hcc102, hok102, hbk102⟩ := Kd.S_borrow HO_11.out [] (x12_2 : Int) (of_decide_eq_true (by first | (with_reducible assumption) | assumption)) hq102
                       obtain ⟨ve102_0, rfl, ge102_0⟩ := hM102
                       have hv102 := hcc102 0 _ rfl
                       rw [Nat.add_zero, show ((Kd.slice 3 (Kd.int .i64))).sz = 1 from rfl, Nat.mul_one] at hv102
                       replace hv102 := Option.some.inj (hv102.symm.trans HX277_0.out)
                       subst hv102
                       clear hcc102 hcl102
                       replace ge102_0 := (show Kd.R (Kd.int .i64) 3 _ _ _ _ (rd_L1 x11_2 x12_2) from ge102_0)
                       have HP102 := Kd.R_putg ge102_0 (x13_2 : Int) x15_48
                       go_wp2_with (first | ((with_reducible refine gate_store (t := 3) (p := 85) rfl ?_); refine store_event (t := 3) (p := 85) (v := ?vo_w103) (w1 := (wc.setCell ⟨go95, (x13_2 : Int).toNat, none⟩ (.int .i64 x15_48))) ?hg ?ho ?hn ?hr ?_; (case ho => rfl); (case hg => rfl); (case hn => rfl); (case hr => first | (go_simp; done) | (go_simp; rfl)); intro w103 hw; have hg : wc.grownBy w103 (some go95) := (by rw [hw]; exact HP102.2); have hz_ : Kd.R (Kd.int .i64) 3 w103 w.heap.size oki102 (.slice (some ⟨go95, 0, none⟩) (rd_L1 x11_2 x12_2).length c277_0) y278 := (by rw [hw, Ny278.out]; exact HP102.1); have hp_ : Kd.S (Kd.slice 3 (Kd.int .i64)) 22 w103 w.heap.size (fun k_ => some k_ ≠ (.slice (some ad272) x9_2.length co40 : Value).ownBlock ∧ some k_ ≠ (u264000 : Value).ownBlock ∧ some k_ ≠ (u264001 : Value).ownBlock) (.slice (some ad277) x11_2.length co101) y280 := (by rw [Ny280.out]; exact hbk102 hg (fun k_ e_ => by injection e_ with e_; subst e_; exact ge102_0.1 _ rfl) (Kd.M_row hz_)); have hm_ := Kd.R_mono hz_ hok102; clear HP102 hbk102; have n0_ := Aside0.mk (Kd.R_grown1 (by (with_reducible repeat (first | apply Kd.R_alloc | apply Kd.R_drewN | apply Kd.R_drew)); exact HO_9.out) rfl hg ((HL277_0.out.1 _ rfl).1.1)); have n1_ := Aside0.mk (hp_); have n2_ := Aside0.mk (Kd.R_grown1 (by (with_reducible repeat (first | apply Kd.R_alloc | apply Kd.R_drewN | apply Kd.R_drew)); exact HO_264000.out) rfl hg ((HL277_0.out.1 _ rfl).1.2.1)); have n3_ := Aside0.mk (Kd.R_grown1 (by (with_reducible repeat (first | apply Kd.R_alloc | apply Kd.R_drewN | apply Kd.R_drew)); exact HO_264001.out) rfl hg ((HL277_0.out.1 _ rfl).1.2.2)); have n4_ := Aside0.mk (blk_grown (g := gb254) (o := .cells #[.slice A0_0 l0_0.length c0_0, .slice A0_1 l0_1.length c0_1] 28 (0, 0)) (by (with_reducible repeat (first | refine blk_drewN ?_ _ | refine blk_drew ?_ | refine blk_alloc ?_ _)); exact BK254.out) hg (Kd.R_ne HL277_0.out BK254.out (by decide))); have n5_ := Aside0.mk (blk_grown (g := gb255) (o := .cells #[.slice none 0 0, .slice none 0 0] 28 (0, 0)) (by (with_reducible repeat (first | refine blk_drewN ?_ _ | refine blk_drew ?_ | refine blk_alloc ?_ _)); exact BK255.out) hg (Kd.R_ne HL277_0.out BK255.out (by decide))); have n6_ := Aside0.mk (blk_grown (g := gb263) (o := .cells #[u264000, u264001] 61 (0, 0)) (by (with_reducible repeat (first | refine blk_drewN ?_ _ | refine blk_drew ?_ | refine blk_alloc ?_ _)); exact BK263.out) hg (Kd.R_ne HL277_0.out BK263.out (by decide))); have n7_ := Aside0.mk ((by rw [hw]; exact below_set (HB.out) GB95.out : Below w.heap.size w w103)); have n8_ := Aside0.mk (hm_); have n9_ := Aside0.mk ((Kd.R_reads' hm_).2.1); clear HO_9; clear HO_11; clear HO_264000; clear HO_264001; clear BK254; clear BK255; clear BK263; clear HB; clear HL277_0; have HO_9 := n0_; have HO_11 := n1_; have HO_264000 := n2_; have HO_264001 := n3_; have BK254 := n4_; have BK255 := n5_; have BK263 := n6_; have HB := n7_; have HL304 := n8_; have HC279 := n9_; clear n0_ n1_ n2_ n3_ n4_ n5_ n6_ n7_ n8_ n9_; clear hg hw hp_ hz_ hm_ hok102; have p281 : 0 ≤ ((ji96) : Int) := of_decide_eq_true (by first | (with_reducible assumption) | assumption); have q281 : (ji96) < (y280.length : Int) := (by have h_ : ((ji96) : Int) < ((x11_2.length : Int) : Int) := of_decide_eq_true (by first | (with_reducible assumption) | assumption); first | (have e_ := (Kd.S_reads' HO_11.out).1; omega) | simpa only [Ny280.out, List.length_set] using h_); have ql281 : (((ji96) : Int) < ((x11_2.length : Int) : Int)) = True := eq_true (of_decide_eq_true (by first | (with_reducible assumption) | assumption)); obtain ⟨ad281, A281_0, c281_0, e281, hx281_0, hl281_0, hi281_0⟩ := at_L1 (Kd.S_reads' HO_11.out).2.2 (ji96) p281 q281; obtain rfl : ad277 = ad281 := (by injection e281); obtain ⟨ce281, hce281, hMe281, hcc281⟩ := Kd.S_get HO_11.out [] (ji96) p281 (by first | exact q281 | exact of_decide_eq_true (by first | (with_reducible assumption) | assumption) | (have e_ := (Kd.S_reads' HO_11.out).1; omega)); obtain ⟨ve281_0, rfl, ge281_0⟩ := hMe281; have hv281_0 := hcc281 0 _ rfl; rw [Nat.add_zero, show ((Kd.slice 3 (Kd.int .i64))).sz = 1 from rfl, Nat.mul_one] at hv281_0; replace hv281_0 := Option.some.inj (hv281_0.symm.trans hx281_0); rw [hv281_0] at ge281_0; have HL281_0 := Aside0.mk (show Kd.R (Kd.int .i64) 3 _ _ _ _ (rd_L1 y280 (ji96)) from ge281_0); clear hv281_0 ge281_0; have HX281_0 := Aside0.mk hx281_0; clear hcc281 hce281; have HR281_0 := Aside0.mk hi281_0; have HC281_0 := Aside0.mk hl281_0; clear hi281_0 hl281_0; replace p281 := eq_true p281; replace q281 := eq_true q281; have p100 : 0 ≤ (x13_2 : Int) := of_decide_eq_true (by first | (with_reducible assumption) | assumption); have q100 : (x13_2 : Int) < (((rd_L1 y280 (ji96)).length : Int) : Int) := of_decide_eq_true (by first | (with_reducible assumption) | assumption); obtain ⟨go100, co100, eo100, gb100, gl100, cl100, HG100⟩ := Kd.R_form HL281_0.out (by omega); (first | cases eo100 | (injection eo100 with ea_ en_ ec_; (first | subst ea_ | (injection ea_ with ea_; subst ea_)); subst ec_; clear en_)); have GB100 := Aside0.mk gb100; have GG100 := Aside0.mk HG100; clear gb100 gl100 HG100; obtain ⟨hx100_0, hf100_0⟩ := Kd.R_celln 0 HL281_0.out (x13_2 : Int) p100 q100; replace p100 := eq_true p100; replace q100 := eq_true q100; have hq104 : ((ji96) : Int) < (y280.length : Int) := (by have h_ : ((ji96) : Int) < ((x11_2.length : Int) : Int) := of_decide_eq_true (by first | (with_reducible assumption) | assumption); first | exact h_ | (have e_ := (Kd.S_reads' HO_11.out).1; omega) | simpa only [Ny280.out, List.length_set] using h_); obtain ⟨oki104, ce104, hcl104, hM104, hcc104, hok104, hbk104⟩ := Kd.S_borrow HO_11.out [] ((ji96) : Int) (of_decide_eq_true (by first | (with_reducible assumption) | assumption)) (by first | exact hq104 | (have l_ := (Kd.S_reads' HO_11.out).1; omega)); obtain ⟨ve104_0, rfl, ge104_0⟩ := hM104; have hv104 := hcc104 0 _ rfl; rw [Nat.add_zero, show ((Kd.slice 3 (Kd.int .i64))).sz = 1 from rfl, Nat.mul_one] at hv104; replace hv104 := Option.some.inj (hv104.symm.trans HX281_0.out); subst hv104; clear hcc104 hcl104; replace ge104_0 := (show Kd.R (Kd.int .i64) 3 _ _ _ _ (rd_L1 y280 (ji96)) from ge104_0); have HP104 := Kd.R_putg ge104_0 (x13_2 : Int) 0) | ((with_reducible refine gate_store (t := 3) (p := 102) rfl ?_); refine store_event (t := 3) (p := 102) (v := ?vo_w105) (w1 := (w103.setCell ⟨go100, (x13_2 : Int).toNat, none⟩ (.int .i64 0))) ?hg ?ho ?hn ?hr ?_; (case ho => rfl); (case hg => rfl); (case hn => rfl); (case hr => first | (go_simp; done) | (go_simp; rfl)); intro w105 hw; have hg : w103.grownBy w105 (some go100) := (by rw [hw]; exact HP104.2); have hz_ : Kd.R (Kd.int .i64) 3 w105 w.heap.size oki104 (.slice (some ⟨go100, 0, none⟩) (rd_L1 y280 (ji96)).length c281_0) y282 := (by rw [hw, Ny282.out]; exact HP104.1); have hp_ : Kd.S (Kd.slice 3 (Kd.int .i64)) 22 w105 w.heap.size (fun k_ => some k_ ≠ (.slice (some ad272) x9_2.length co40 : Value).ownBlock ∧ some k_ ≠ (u264000 : Value).ownBlock ∧ some k_ ≠ (u264001 : Value).ownBlock) (.slice (some ad277) x11_2.length co101) y284 := (by rw [Ny284.out]; exact hbk104 hg (fun k_ e_ => by injection e_ with e_; subst e_; exact ge104_0.1 _ rfl) (Kd.M_row hz_)); have hm_ := Kd.R_mono hz_ hok104; clear HP104 hbk104; have n0_ := Aside0.mk (Kd.R_grown1 (by (with_reducible repeat (first | apply Kd.R_alloc | apply Kd.R_drewN | apply Kd.R_drew)); exact HO_9.out) rfl hg ((HL281_0.out.1 _ rfl).1.1)); have n1_ := Aside0.mk (hp_); have n2_ := Aside0.mk (Kd.R_grown1 (by (with_reducible repeat (first | apply Kd.R_alloc | apply Kd.R_drewN | apply Kd.R_drew)); exact HO_264000.out) rfl hg ((HL281_0.out.1 _ rfl).1.2.1)); have n3_ := Aside0.mk (Kd.R_grown1 (by (with_reducible repeat (first | apply Kd.R_alloc | apply Kd.R_drewN | apply Kd.R_drew)); exact HO_264001.out) rfl hg ((HL281_0.out.1 _ rfl).1.2.2)); have n4_ := Aside0.mk (blk_grown (g := gb254) (o := .cells #[.slice A0_0 l0_0.length c0_0, .slice A0_1 l0_1.length c0_1] 28 (0, 0)) (by (with_reducible repeat (first | refine blk_drewN ?_ _ | refine blk_drew ?_ | refine blk_alloc ?_ _)); exact BK254.out) hg (Kd.R_ne HL281_0.out BK254.out (by decide))); have n5_ := Aside0.mk (blk_grown (g := gb255) (o := .cells #[.slice none 0 0, .slice none 0 0] 28 (0, 0)) (by (with_reducible repeat (first | refine blk_drewN ?_ _ | refine blk_drew ?_ | refine blk_alloc ?_ _)); exact BK255.out) hg (Kd.R_ne HL281_0.out BK255.out (by decide))); have n6_ := Aside0.mk (blk_grown (g := gb263) (o := .cells #[u264000, u264001] 61 (0, 0)) (by (with_reducible repeat (first | refine blk_drewN ?_ _ | refine blk_drew ?_ | refine blk_alloc ?_ _)); exact BK263.out) hg (Kd.R_ne HL281_0.out BK263.out (by decide))); have n7_ := Aside0.mk ((by rw [hw]; exact below_set (HB.out) GB100.out : Below w.heap.size w w105)); have n8_ := Aside0.mk (hm_); have n9_ := Aside0.mk ((Kd.R_reads' hm_).2.1); clear HO_9; clear HO_11; clear HO_264000; clear HO_264001; clear BK254; clear BK255; clear BK263; clear HB; clear HL304; clear HL281_0; have HO_9 := n0_; have HO_11 := n1_; have HO_264000 := n2_; have HO_264001 := n3_; have BK254 := n4_; have BK255 := n5_; have BK263 := n6_; have HB := n7_; have HL305 := n8_; have HC283 := n9_; clear n0_ n1_ n2_ n3_ n4_ n5_ n6_ n7_ n8_ n9_; clear hg hw hp_ hz_ hm_ hok104))
                       (try simp only [← hl9_2])
                       go_roundg kj56
                       case measure => have := HJ4.out; have := HK2.out; have := HJ40.out; have := HJ48.out; have := HJ56.out; omega
                       case rel => exact ⟨(x9_2), (y284), (ji96), (x13_2), (x264000_2), (x264001_2), (u264000), (u264001), (by first | rfl | (simp; done) | (simp only [← hji96] <;> (first | rfl | simp)) | (simp [*]; done)), (by first | rfl | (simp; done) | (simp [*]; done)), H', ⟨by have := HJ4.out; have := HK2.out; have := HJ40.out; have := HJ48.out; have := HJ56.out; omega⟩, ⟨by (try simp only [hl9_2]); (with_reducible repeat (first | apply Kd.R_alloc | apply Kd.R_drewN | apply Kd.R_drew)); exact HO_9.out⟩, ⟨by (try simp only [hl9_2]); (with_reducible repeat (first | apply Kd.S_alloc | apply Kd.S_drewN | apply Kd.S_drew)); exact HO_11.out⟩, ⟨by (try simp only [hl9_2]); (with_reducible repeat (first | apply Kd.R_alloc | apply Kd.R_drewN | apply Kd.R_drew)); exact HO_264000.out⟩, ⟨by (try simp only [hl9_2]); (with_reducible repeat (first | apply Kd.R_alloc | apply Kd.R_drewN | apply Kd.R_drew)); exact HO_264001.out⟩, ⟨by (try simp only [hl9_2]); (with_reducible repeat (first | refine blk_drewN ?_ _ | refine blk_drew ?_ | refine blk_alloc ?_ _)); exact BK254.out⟩, ⟨by (try simp only [hl9_2]); (with_reducible repeat (first | refine blk_drewN ?_ _ | refine blk_drew ?_ | refine blk_alloc ?_ _)); exact BK255.out⟩, ⟨by (try simp only [hl9_2]); (with_reducible repeat (first | refine blk_drewN ?_ _ | refine blk_drew ?_ | refine blk_alloc ?_ _)); exact BK263.out⟩, ⟨by repeat (first | (with_reducible first | exact HB.out | apply below_alloc | apply pw_below_drewN | apply below_drew1 | refine below_set ?_ GE254.out | refine below_set ?_ GE255.out | refine below_set ?_ GE263.out) | exact HB.out)⟩⟩
                      ·rw [if_neg c99] at H
                       exact absurd H (by simp)
                     ·rw [if_neg c98] at H
                      exact absurd H (by simp)
                    ·rw [if_neg c97] at H
                     exact absurd H (by simp)
                   ·rw [if_neg c94] at H
                    exact absurd H (by simp)
                  ·rw [if_neg c93] at H
                   exact absurd H (by simp)
                 ·rw [if_neg c92] at H
                  exact absurd H (by simp)
                ·rw [if_neg c91] at H
                 exact absurd H (by simp)
               ·rw [if_neg c90] at H
                have c90b0 : decide (x14_40 ≤ x15_48) = false := decide_eq_false c90
                clear c90
                by_cases c106 : 0 ≤ x12_2
                ·rw [if_pos c106] at H
                 have c106b0 : decide (0 ≤ x12_2) = true := decide_eq_true c106
                 clear c106
                 by_cases c107 : x12_2 < (x11_2.length : Int)
                 ·rw [if_pos c107] at H
                  have c107b0 : decide (x12_2 < (x11_2.length : Int)) = true := decide_eq_true c107
                  clear c107
                  by_cases c108 : 0 ≤ x13_2
                  ·rw [if_pos c108] at H
                   have c108b0 : decide (0 ≤ x13_2) = true := decide_eq_true c108
                   clear c108
                   by_cases c109 : x13_2 < ((rd_L1 x11_2 x12_2).length : Int)
                   ·rw [if_pos c109] at H
                    have c109b0 : decide (x13_2 < ((rd_L1 x11_2 x12_2).length : Int)) = true := decide_eq_true c109
                    clear c109
                    obtain ⟨y286, hy286⟩ : ∃ y_ : List Int, y_ = ((rd_L1 x11_2 x12_2).set (x13_2 : Int).toNat x14_40) := ⟨_, rfl⟩
                    replace H : ((some (x11_2.set (x12_2 : Int).toNat y286 : List (List Int))).bind fun y288 => (if 0 ≤ (wrap64 (x13_2 - 1)) then (if (wrap64 (x13_2 - 1)) < ((rd_L1 y288 x12_2).length : Int) then (spec_SlideOut.l0 kj56 x9_2 (y288.set (x12_2 : Int).toNat ((rd_L1 y288 x12_2).set ((wrap64 (x13_2 - 1)) : Int).toNat 0)) x12_2 (wrap64 (x13_2 - 1)) l0_0 l0_1) else (none)) else (none))) = some (r1, r2, r3, r4) := by first | (rw [hy286]; with_reducible exact H) | (have H2_ := (Option.bind_some _ _).symm.trans H; rw [hy286]; with_reducible exact H2_) | (have H2_ := (Option.bind_some _ _).symm.trans H; with_reducible exact H2_) | with_reducible exact H | (rw [hy286]; exact H) | exact H
                    have Ny286 := Aside0.mk hy286
                    clear hy286
                    obtain ⟨y288, hy288⟩ : ∃ y_ : List (List Int), y_ = (x11_2.set (x12_2 : Int).toNat y286) := ⟨_, rfl⟩
                    replace H : (if 0 ≤ (wrap64 (x13_2 - 1)) then (if (wrap64 (x13_2 - 1)) < ((rd_L1 y288 x12_2).length : Int) then (spec_SlideOut.l0 kj56 x9_2 (y288.set (x12_2 : Int).toNat ((rd_L1 y288 x12_2).set ((wrap64 (x13_2 - 1)) : Int).toNat 0)) x12_2 (wrap64 (x13_2 - 1)) l0_0 l0_1) else (none)) else (none)) = some (r1, r2, r3, r4) := by first | (rw [hy288]; with_reducible exact H) | (have H2_ := (Option.bind_some _ _).symm.trans H; rw [hy288]; with_reducible exact H2_) | (have H2_ := (Option.bind_some _ _).symm.trans H; with_reducible exact H2_) | with_reducible exact H | (rw [hy288]; exact H) | exact H
                    have Ny288 := Aside0.mk hy288
                    clear hy288
                    obtain ⟨ji111, hji111⟩ : ∃ j_ : Int, (wrap64 (x13_2 - 1)) = j_ := ⟨_, rfl⟩
                    replace H : (if 0 ≤ (ji111) then (if (ji111) < ((rd_L1 y288 x12_2).length : Int) then (spec_SlideOut.l0 kj56 x9_2 (y288.set (x12_2 : Int).toNat ((rd_L1 y288 x12_2).set ((ji111) : Int).toNat 0)) x12_2 ji111 l0_0 l0_1) else (none)) else (none)) = some (r1, r2, r3, r4) := by first | (rw [hji111] at H; exact H) | (simp only [hji111] at H ⊢; exact H)
                    have hji111w : (IntKind.i64.wrap (x13_2 - 1)) = ji111 := (i64_w _).trans hji111
                    by_cases c112 : 0 ≤ (ji111)
                    ·rw [if_pos c112] at H
                     have c112b0 : decide (0 ≤ (ji111)) = true := decide_eq_true c112
                     clear c112
                     by_cases c113 : (ji111) < ((rd_L1 y288 x12_2).length : Int)
                     ·rw [if_pos c113] at H
                      have c113b0 : decide ((ji111) < ((rd_L1 y288 x12_2).length : Int)) = true := decide_eq_true c113
                      clear c113
                      obtain ⟨y290, hy290⟩ : ∃ y_ : List Int, y_ = ((rd_L1 y288 x12_2).set ((ji111) : Int).toNat 0) := ⟨_, rfl⟩
                      replace H : (spec_SlideOut.l0 kj56 x9_2 (y288.set (x12_2 : Int).toNat y290) x12_2 ji111 l0_0 l0_1) = some (r1, r2, r3, r4) := by first | (rw [hy290]; with_reducible exact H) | (have H2_ := (Option.bind_some _ _).symm.trans H; rw [hy290]; with_reducible exact H2_) | (have H2_ := (Option.bind_some _ _).symm.trans H; with_reducible exact H2_) | with_reducible exact H | (rw [hy290]; exact H) | exact H
                      have Ny290 := Aside0.mk hy290
                      clear hy290
                      obtain ⟨y292, hy292⟩ : ∃ y_ : List (List Int), y_ = (y288.set (x12_2 : Int).toNat y290) := ⟨_, rfl⟩
                      replace H : (spec_SlideOut.l0 kj56 x9_2 y292 x12_2 ji111 l0_0 l0_1) = some (r1, r2, r3, r4) := by first | (rw [hy292]; with_reducible exact H) | (have H2_ := (Option.bind_some _ _).symm.trans H; rw [hy292]; with_reducible exact H2_) | (have H2_ := (Option.bind_some _ _).symm.trans H; with_reducible exact H2_) | with_reducible exact H | (rw [hy292]; exact H) | exact H
                      have Ny292 := Aside0.mk hy292
                      clear hy292
                      have H' := Aside0.mk H
                      clear H
                      obtain ⟨Ao115, co115, eo115⟩ := Kd.S_slice HO_11.out
                      subst eo115
                      have p285 : 0 ≤ (x12_2 : Int) := of_decide_eq_true (by first | (with_reducible assumption) | assumption)
                      have q285 : x12_2 < (x11_2.length : Int) := of_decide_eq_true (by first | (with_reducible assumption) | assumption)
                      obtain ⟨ad285, A285_0, c285_0, e285, hx285_0, hl285_0, hi285_0⟩ := at_L1 (Kd.S_reads' HO_11.out).2.2 x12_2 p285 q285
                      cases e285
                      obtain ⟨ce285, hce285, hMe285, hcc285⟩ := Kd.S_get HO_11.out [] x12_2 p285 (by first | exact q285 | exact of_decide_eq_true (by first | (with_reducible assumption) | assumption) | (have e_ := (Kd.S_reads' HO_11.out).1; omega))
                      obtain ⟨ve285_0, rfl, ge285_0⟩ := hMe285
                      have hv285_0 := hcc285 0 _ rfl
                      rw [Nat.add_zero, show ((Kd.slice 3 (Kd.int .i64))).sz = 1 from rfl, Nat.mul_one] at hv285_0
                      replace hv285_0 := Option.some.inj (hv285_0.symm.trans hx285_0)
                      rw [hv285_0] at ge285_0
                      have HL285_0 := Aside0.mk (show Kd.R (Kd.int .i64) 3 _ _ _ _ (rd_L1 x11_2 x12_2) from ge285_0)
                      clear hv285_0 ge285_0
                      have HX285_0 := Aside0.mk hx285_0
                      clear hcc285 hce285
                      have HR285_0 := Aside0.mk hi285_0
                      have HC285_0 := Aside0.mk hl285_0
                      clear hi285_0 hl285_0
                      replace p285 := eq_true p285
                      replace q285 := eq_true q285
                      have p110 : 0 ≤ (x13_2 : Int) := of_decide_eq_true (by first | (with_reducible assumption) | assumption)
                      have q110 : (x13_2 : Int) < (((rd_L1 x11_2 x12_2).length : Int) : Int) := of_decide_eq_true (by first | (with_reducible assumption) | assumption)
                      obtain ⟨go110, co110, eo110, gb110, gl110, cl110, HG110⟩ := Kd.R_form HL285_0.out (by omega)
                      (first | cases eo110 | (injection eo110 with ea_ en_ ec_; (first | subst ea_ | (injection ea_ with ea_; subst ea_)); subst ec_; clear en_))
                      have GB110 := Aside0.mk gb110
                      have GG110 := Aside0.mk HG110
                      clear gb110 gl110 HG110
                      obtain ⟨hx110_0, hf110_0⟩ := Kd.R_celln 0 HL285_0.out (x13_2 : Int) p110 q110
                      replace p110 := eq_true p110
                      replace q110 := eq_true q110
                      have hq116 : (x12_2 : Int) < (x11_2.length : Int) := (by have h_ : (x12_2 : Int) < ((x11_2.length : Int) : Int) := of_decide_eq_true (by first | (with_reducible assumption) | assumption); first | exact h_ | (have e_ := (Kd.S_reads' HO_11.out).1; omega) | simpa only [List.length_set, List.length_set] using h_)
                      obtain ⟨oki116, ce116, hcl116, hM116, hcc116, hok116, hbk116⟩ := Kd.S_borrow HO_11.out [] (x12_2 : Int) (of_decide_eq_true (by first | (with_reducible assumption) | assumption)) hq116
                      obtain ⟨ve116_0, rfl, ge116_0⟩ := hM116
                      have hv116 := hcc116 0 _ rfl
                      rw [Nat.add_zero, show ((Kd.slice 3 (Kd.int .i64))).sz = 1 from rfl, Nat.mul_one] at hv116
                      replace hv116 := Option.some.inj (hv116.symm.trans HX285_0.out)
                      subst hv116
                      clear hcc116 hcl116
                      replace ge116_0 := (show Kd.R (Kd.int .i64) 3 _ _ _ _ (rd_L1 x11_2 x12_2) from ge116_0)
                      have HP116 := Kd.R_putg ge116_0 (x13_2 : Int) x14_40
                      go_wp2_with (first | ((with_reducible refine gate_store (t := 3) (p := 94) rfl ?_); refine store_event (t := 3) (p := 94) (v := ?vo_w117) (w1 := (wc.setCell ⟨go110, (x13_2 : Int).toNat, none⟩ (.int .i64 x14_40))) ?hg ?ho ?hn ?hr ?_; (case ho => rfl); (case hg => rfl); (case hn => rfl); (case hr => first | (go_simp; done) | (go_simp; rfl)); intro w117 hw; have hg : wc.grownBy w117 (some go110) := (by rw [hw]; exact HP116.2); have hz_ : Kd.R (Kd.int .i64) 3 w117 w.heap.size oki116 (.slice (some ⟨go110, 0, none⟩) (rd_L1 x11_2 x12_2).length c285_0) y286 := (by rw [hw, Ny286.out]; exact HP116.1); have hp_ : Kd.S (Kd.slice 3 (Kd.int .i64)) 22 w117 w.heap.size (fun k_ => some k_ ≠ (.slice (some ad272) x9_2.length co40 : Value).ownBlock ∧ some k_ ≠ (u264000 : Value).ownBlock ∧ some k_ ≠ (u264001 : Value).ownBlock) (.slice (some ad285) x11_2.length co115) y288 := (by rw [Ny288.out]; exact hbk116 hg (fun k_ e_ => by injection e_ with e_; subst e_; exact ge116_0.1 _ rfl) (Kd.M_row hz_)); have hm_ := Kd.R_mono hz_ hok116; clear HP116 hbk116; have n0_ := Aside0.mk (Kd.R_grown1 (by (with_reducible repeat (first | apply Kd.R_alloc | apply Kd.R_drewN | apply Kd.R_drew)); exact HO_9.out) rfl hg ((HL285_0.out.1 _ rfl).1.1)); have n1_ := Aside0.mk (hp_); have n2_ := Aside0.mk (Kd.R_grown1 (by (with_reducible repeat (first | apply Kd.R_alloc | apply Kd.R_drewN | apply Kd.R_drew)); exact HO_264000.out) rfl hg ((HL285_0.out.1 _ rfl).1.2.1)); have n3_ := Aside0.mk (Kd.R_grown1 (by (with_reducible repeat (first | apply Kd.R_alloc | apply Kd.R_drewN | apply Kd.R_drew)); exact HO_264001.out) rfl hg ((HL285_0.out.1 _ rfl).1.2.2)); have n4_ := Aside0.mk (blk_grown (g := gb254) (o := .cells #[.slice A0_0 l0_0.length c0_0, .slice A0_1 l0_1.length c0_1] 28 (0, 0)) (by (with_reducible repeat (first | refine blk_drewN ?_ _ | refine blk_drew ?_ | refine blk_alloc ?_ _)); exact BK254.out) hg (Kd.R_ne HL285_0.out BK254.out (by decide))); have n5_ := Aside0.mk (blk_grown (g := gb255) (o := .cells #[.slice none 0 0, .slice none 0 0] 28 (0, 0)) (by (with_reducible repeat (first | refine blk_drewN ?_ _ | refine blk_drew ?_ | refine blk_alloc ?_ _)); exact BK255.out) hg (Kd.R_ne HL285_0.out BK255.out (by decide))); have n6_ := Aside0.mk (blk_grown (g := gb263) (o := .cells #[u264000, u264001] 61 (0, 0)) (by (with_reducible repeat (first | refine blk_drewN ?_ _ | refine blk_drew ?_ | refine blk_alloc ?_ _)); exact BK263.out) hg (Kd.R_ne HL285_0.out BK263.out (by decide))); have n7_ := Aside0.mk ((by rw [hw]; exact below_set (HB.out) GB110.out : Below w.heap.size w w117)); have n8_ := Aside0.mk (hm_); have n9_ := Aside0.mk ((Kd.R_reads' hm_).2.1); clear HO_9; clear HO_11; clear HO_264000; clear HO_264001; clear BK254; clear BK255; clear BK263; clear HB; clear HL285_0; have HO_9 := n0_; have HO_11 := n1_; have HO_264000 := n2_; have HO_264001 := n3_; have BK254 := n4_; have BK255 := n5_; have BK263 := n6_; have HB := n7_; have HL306 := n8_; have HC287 := n9_; clear n0_ n1_ n2_ n3_ n4_ n5_ n6_ n7_ n8_ n9_; clear hg hw hp_ hz_ hm_ hok116; have p289 : 0 ≤ (x12_2 : Int) := of_decide_eq_true (by first | (with_reducible assumption) | assumption); have q289 : x12_2 < (y288.length : Int) := (by have h_ : (x12_2 : Int) < ((x11_2.length : Int) : Int) := of_decide_eq_true (by first | (with_reducible assumption) | assumption); first | (have e_ := (Kd.S_reads' HO_11.out).1; omega) | simpa only [Ny288.out, List.length_set] using h_); have ql289 : ((x12_2 : Int) < ((x11_2.length : Int) : Int)) = True := eq_true (of_decide_eq_true (by first | (with_reducible assumption) | assumption)); obtain ⟨ad289, A289_0, c289_0, e289, hx289_0, hl289_0, hi289_0⟩ := at_L1 (Kd.S_reads' HO_11.out).2.2 x12_2 p289 q289; obtain rfl : ad285 = ad289 := (by injection e289); obtain ⟨ce289, hce289, hMe289, hcc289⟩ := Kd.S_get HO_11.out [] x12_2 p289 (by first | exact q289 | exact of_decide_eq_true (by first | (with_reducible assumption) | assumption) | (have e_ := (Kd.S_reads' HO_11.out).1; omega)); obtain ⟨ve289_0, rfl, ge289_0⟩ := hMe289; have hv289_0 := hcc289 0 _ rfl; rw [Nat.add_zero, show ((Kd.slice 3 (Kd.int .i64))).sz = 1 from rfl, Nat.mul_one] at hv289_0; replace hv289_0 := Option.some.inj (hv289_0.symm.trans hx289_0); rw [hv289_0] at ge289_0; have HL289_0 := Aside0.mk (show Kd.R (Kd.int .i64) 3 _ _ _ _ (rd_L1 y288 x12_2) from ge289_0); clear hv289_0 ge289_0; have HX289_0 := Aside0.mk hx289_0; clear hcc289 hce289; have HR289_0 := Aside0.mk hi289_0; have HC289_0 := Aside0.mk hl289_0; clear hi289_0 hl289_0; replace p289 := eq_true p289; replace q289 := eq_true q289; have p114 : 0 ≤ ((ji111) : Int) := of_decide_eq_true (by first | (with_reducible assumption) | assumption); have q114 : ((ji111) : Int) < (((rd_L1 y288 x12_2).length : Int) : Int) := of_decide_eq_true (by first | (with_reducible assumption) | assumption); obtain ⟨go114, co114, eo114, gb114, gl114, cl114, HG114⟩ := Kd.R_form HL289_0.out (by omega); (first | cases eo114 | (injection eo114 with ea_ en_ ec_; (first | subst ea_ | (injection ea_ with ea_; subst ea_)); subst ec_; clear en_)); have GB114 := Aside0.mk gb114; have GG114 := Aside0.mk HG114; clear gb114 gl114 HG114; obtain ⟨hx114_0, hf114_0⟩ := Kd.R_celln 0 HL289_0.out ((ji111) : Int) p114 q114; replace p114 := eq_true p114; replace q114 := eq_true q114; have hq118 : (x12_2 : Int) < (y288.length : Int) := (by have h_ : (x12_2 : Int) < ((x11_2.length : Int) : Int) := of_decide_eq_true (by first | (with_reducible assumption) | assumption); first | exact h_ | (have e_ := (Kd.S_reads' HO_11.out).1; omega) | simpa only [Ny288.out, List.length_set] using h_); obtain ⟨oki118, ce118, hcl118, hM118, hcc118, hok118, hbk118⟩ := Kd.S_borrow HO_11.out [] (x12_2 : Int) (of_decide_eq_true (by first | (with_reducible assumption) | assumption)) (by first | exact hq118 | (have l_ := (Kd.S_reads' HO_11.out).1; omega)); obtain ⟨ve118_0, rfl, ge118_0⟩ := hM118; have hv118 := hcc118 0 _ rfl; rw [Nat.add_zero, show ((Kd.slice 3 (Kd.int .i64))).sz = 1 from rfl, Nat.mul_one] at hv118; replace hv118 := Option.some.inj (hv118.symm.trans HX289_0.out); subst hv118; clear hcc118 hcl118; replace ge118_0 := (show Kd.R (Kd.int .i64) 3 _ _ _ _ (rd_L1 y288 x12_2) from ge118_0); have HP118 := Kd.R_putg ge118_0 ((ji111) : Int) 0) | ((with_reducible refine gate_store (t := 3) (p := 102) rfl ?_); refine store_event (t := 3) (p := 102) (v := ?vo_w119) (w1 := (w117.setCell ⟨go114, ((ji111) : Int).toNat, none⟩ (.int .i64 0))) ?hg ?ho ?hn ?hr ?_; (case ho => rfl); (case hg => rfl); (case hn => rfl); (case hr => first | (go_simp; done) | (go_simp; rfl)); intro w119 hw; have hg : w117.grownBy w119 (some go114) := (by rw [hw]; exact HP118.2); have hz_ : Kd.R (Kd.int .i64) 3 w119 w.heap.size oki118 (.slice (some ⟨go114, 0, none⟩) (rd_L1 y288 x12_2).length c289_0) y290 := (by rw [hw, Ny290.out]; exact HP118.1); have hp_ : Kd.S (Kd.slice 3 (Kd.int .i64)) 22 w119 w.heap.size (fun k_ => some k_ ≠ (.slice (some ad272) x9_2.length co40 : Value).ownBlock ∧ some k_ ≠ (u264000 : Value).ownBlock ∧ some k_ ≠ (u264001 : Value).ownBlock) (.slice (some ad285) x11_2.length co115) y292 := (by rw [Ny292.out]; exact hbk118 hg (fun k_ e_ => by injection e_ with e_; subst e_; exact ge118_0.1 _ rfl) (Kd.M_row hz_)); have hm_ := Kd.R_mono hz_ hok118; clear HP118 hbk118; have n0_ := Aside0.mk (Kd.R_grown1 (by (with_reducible repeat (first | apply Kd.R_alloc | apply Kd.R_drewN | apply Kd.R_drew)); exact HO_9.out) rfl hg ((HL289_0.out.1 _ rfl).1.1)); have n1_ := Aside0.mk (hp_); have n2_ := Aside0.mk (Kd.R_grown1 (by (with_reducible repeat (first | apply Kd.R_alloc | apply Kd.R_drewN | apply Kd.R_drew)); exact HO_264000.out) rfl hg ((HL289_0.out.1 _ rfl).1.2.1)); have n3_ := Aside0.mk (Kd.R_grown1 (by (with_reducible repeat (first | apply Kd.R_alloc | apply Kd.R_drewN | apply Kd.R_drew)); exact HO_264001.out) rfl hg ((HL289_0.out.1 _ rfl).1.2.2)); have n4_ := Aside0.mk (blk_grown (g := gb254) (o := .cells #[.slice A0_0 l0_0.length c0_0, .slice A0_1 l0_1.length c0_1] 28 (0, 0)) (by (with_reducible repeat (first | refine blk_drewN ?_ _ | refine blk_drew ?_ | refine blk_alloc ?_ _)); exact BK254.out) hg (Kd.R_ne HL289_0.out BK254.out (by decide))); have n5_ := Aside0.mk (blk_grown (g := gb255) (o := .cells #[.slice none 0 0, .slice none 0 0] 28 (0, 0)) (by (with_reducible repeat (first | refine blk_drewN ?_ _ | refine blk_drew ?_ | refine blk_alloc ?_ _)); exact BK255.out) hg (Kd.R_ne HL289_0.out BK255.out (by decide))); have n6_ := Aside0.mk (blk_grown (g := gb263) (o := .cells #[u264000, u264001] 61 (0, 0)) (by (with_reducible repeat (first | refine blk_drewN ?_ _ | refine blk_drew ?_ | refine blk_alloc ?_ _)); exact BK263.out) hg (Kd.R_ne HL289_0.out BK263.out (by decide))); have n7_ := Aside0.mk ((by rw [hw]; exact below_set (HB.out) GB114.out : Below w.heap.size w w119)); have n8_ := Aside0.mk (hm_); have n9_ := Aside0.mk ((Kd.R_reads' hm_).2.1); clear HO_9; clear HO_11; clear HO_264000; clear HO_264001; clear BK254; clear BK255; clear BK263; clear HB; clear HL306; clear HL289_0; have HO_9 := n0_; have HO_11 := n1_; have HO_264000 := n2_; have HO_264001 := n3_; have BK254 := n4_; have BK255 := n5_; have BK263 := n6_; have HB := n7_; have HL307 := n8_; have HC291 := n9_; clear n0_ n1_ n2_ n3_ n4_ n5_ n6_ n7_ n8_ n9_; clear hg hw hp_ hz_ hm_ hok118))
                      (try simp only [← hl9_2])
                      go_roundg kj56
                      case measure => have := HJ4.out; have := HK2.out; have := HJ40.out; have := HJ48.out; have := HJ56.out; omega
                      case rel => exact ⟨(x9_2), (y292), (x12_2), (ji111), (x264000_2), (x264001_2), (u264000), (u264001), (by first | rfl | (simp; done) | (simp [*]; done)), (by first | rfl | (simp; done) | (simp only [← hji111] <;> (first | rfl | simp)) | (simp [*]; done)), H', ⟨by have := HJ4.out; have := HK2.out; have := HJ40.out; have := HJ48.out; have := HJ56.out; omega⟩, ⟨by (try simp only [hl9_2]); (with_reducible repeat (first | apply Kd.R_alloc | apply Kd.R_drewN | apply Kd.R_drew)); exact HO_9.out⟩, ⟨by (try simp only [hl9_2]); (with_reducible repeat (first | apply Kd.S_alloc | apply Kd.S_drewN | apply Kd.S_drew)); exact HO_11.out⟩, ⟨by (try simp only [hl9_2]); (with_reducible repeat (first | apply Kd.R_alloc | apply Kd.R_drewN | apply Kd.R_drew)); exact HO_264000.out⟩, ⟨by (try simp only [hl9_2]); (with_reducible repeat (first | apply Kd.R_alloc | apply Kd.R_drewN | apply Kd.R_drew)); exact HO_264001.out⟩, ⟨by (try simp only [hl9_2]); (with_reducible repeat (first | refine blk_drewN ?_ _ | refine blk_drew ?_ | refine blk_alloc ?_ _)); exact BK254.out⟩, ⟨by (try simp only [hl9_2]); (with_reducible repeat (first | refine blk_drewN ?_ _ | refine blk_drew ?_ | refine blk_alloc ?_ _)); exact BK255.out⟩, ⟨by (try simp only [hl9_2]); (with_reducible repeat (first | refine blk_drewN ?_ _ | refine blk_drew ?_ | refine blk_alloc ?_ _)); exact BK263.out⟩, ⟨by repeat (first | (with_reducible first | exact HB.out | apply below_alloc | apply pw_below_drewN | apply below_drew1 | refine below_set ?_ GE254.out | refine below_set ?_ GE255.out | refine below_set ?_ GE263.out) | exact HB.out)⟩⟩
                     ·rw [if_neg c113] at H
                      exact absurd H (by simp)
                    ·rw [if_neg c112] at H
                     exact absurd H (by simp)
                   ·rw [if_neg c109] at H
                    exact absurd H (by simp)
                  ·rw [if_neg c108] at H
                   exact absurd H (by simp)
                 ·rw [if_neg c107] at H
                  exact absurd H (by simp)
                ·rw [if_neg c106] at H
                 exact absurd H (by simp)
     ·rw [if_neg c35] at H
      exact absurd H (by simp)
    ·rw [if_neg c34] at H
     exact absurd H (by simp)

end Go.Proofs.Ytljjjdgnpnnmoaa.F
