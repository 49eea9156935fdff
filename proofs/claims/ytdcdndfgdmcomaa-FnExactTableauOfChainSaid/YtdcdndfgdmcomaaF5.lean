/- For each Go function named below: the plain Lean function that it computes, and that its call returns just that; conditions: those that each theorem names. -/
import Derived.Test.YtdcdndfgdmcomaaF0
import Derived.Test.YtdcdndfgdmcomaaF3
import Derived.Test.YtdcdndfgdmcomaaF4
namespace Go.Proofs.Ytdcdndfgdmcomaa.F
open Go.RowKit Go.Proofs.YtdcdndfgdmcomaaW.PrintWords Go.Proofs.YtdcdndfgdmcomaaW.PrintLast Go.Proofs.YtdcdndfgdmcomaaW.PrintMore
attribute [local go_sem] max2_int min2_int max_two min_two max_three min_three max_four min_four   -- for this text's walks alone
set_option linter.unusedVariables false
set_option linter.unusedSimpArgs false
abbrev zB5_0 : Array Bool := #[false, false, false, false, false, false, false, false, false, false, false, false, false, false, false, false, false, false, false, false, false, false, false, false, false, false, false, false, false, false, false, false, false, false]
abbrev zB5_1 : Array Bool := #[true, false, false, false, false, false, false, false, false, false, false, false, false, false, false, false, false, false, false, false, false, false, false, false, false, false, false, false, false, false, false, false, false, false]
abbrev zB5_2 : Array Bool := #[true, true, false, false, false, false, false, false, false, false, false, false, false, false, false, false, false, false, false, false, false, false, false, false, false, false, false, false, false, false, false, false, false, false]
abbrev zB5_3 : Array Bool := #[true, true, true, false, false, false, false, false, false, false, false, false, false, false, false, false, false, false, false, false, false, false, false, false, false, false, false, false, false, false, false, false, false, false]
abbrev zB5_4 : Array Bool := #[true, true, true, true, false, false, false, false, false, false, false, false, false, false, false, false, false, false, false, false, false, false, false, false, false, false, false, false, false, false, false, false, false, false]
abbrev zB5_5 : Array Bool := #[true, true, true, true, true, false, false, false, false, false, false, false, false, false, false, false, false, false, false, false, false, false, false, false, false, false, false, false, false, false, false, false, false, false]
abbrev zB5_6 : Array Bool := #[true, true, true, true, true, true, false, false, false, false, false, false, false, false, false, false, false, false, false, false, false, false, false, false, false, false, false, false, false, false, false, false, false, false]
abbrev zB5_7 : Array Bool := #[true, true, true, true, true, true, true, false, false, false, false, false, false, false, false, false, false, false, false, false, false, false, false, false, false, false, false, false, false, false, false, false, false, false]
abbrev zB5_8 : Array Bool := #[true, true, true, true, true, true, true, true, false, false, false, false, false, false, false, false, false, false, false, false, false, false, false, false, false, false, false, false, false, false, false, false, false, false]
abbrev zB5_9 : Array Bool := #[true, true, true, true, true, true, true, true, true, false, false, false, false, false, false, false, false, false, false, false, false, false, false, false, false, false, false, false, false, false, false, false, false, false]
abbrev zB5_10 : Array Bool := #[true, true, true, true, true, true, true, true, true, true, false, false, false, false, false, false, false, false, false, false, false, false, false, false, false, false, false, false, false, false, false, false, false, false]
abbrev zB5_11 : Array Bool := #[true, true, true, true, true, true, true, true, true, true, true, false, false, false, false, false, false, false, false, false, false, false, false, false, false, false, false, false, false, false, false, false, false, false]
abbrev zB5_12 : Array Bool := #[true, true, true, true, true, true, true, true, true, true, true, true, false, false, false, false, false, false, false, false, false, false, false, false, false, false, false, false, false, false, false, false, false, false]
abbrev zB5_13 : Array Bool := #[true, true, true, true, true, true, true, true, true, true, true, true, true, false, false, false, false, false, false, false, false, false, false, false, false, false, false, false, false, false, false, false, false, false]
abbrev zB5_14 : Array Bool := #[true, true, true, true, true, true, true, true, true, true, true, true, true, true, false, false, false, false, false, false, false, false, false, false, false, false, false, false, false, false, false, false, false, false]
abbrev zB5_15 : Array Bool := #[true, true, true, true, true, true, true, true, true, true, true, true, true, true, true, false, false, false, false, false, false, false, false, false, false, false, false, false, false, false, false, false, false, false]
abbrev zB5_16 : Array Bool := #[true, true, true, true, true, true, true, true, true, true, true, true, true, true, true, true, false, false, false, false, false, false, false, false, false, false, false, false, false, false, false, false, false, false]
abbrev zB5_17 : Array Bool := #[true, true, true, true, true, true, true, true, true, true, true, true, true, true, true, true, true, false, false, false, false, false, false, false, false, false, false, false, false, false, false, false, false, false]
abbrev zB5_18 : Array Bool := #[true, true, true, true, true, true, true, true, true, true, true, true, true, true, true, true, true, true, false, false, false, false, false, false, false, false, false, false, false, false, false, false, false, false]
abbrev zB5_19 : Array Bool := #[true, true, true, true, true, true, true, true, true, true, true, true, true, true, true, true, true, true, true, false, false, false, false, false, false, false, false, false, false, false, false, false, false, false]
abbrev zB5_20 : Array Bool := #[true, true, true, true, true, true, true, true, true, true, true, true, true, true, true, true, true, true, true, true, false, false, false, false, false, false, false, false, false, false, false, false, false, false]
abbrev zB5_21 : Array Bool := #[true, true, true, true, true, true, true, true, true, true, true, true, true, true, true, true, true, true, true, true, true, false, false, false, false, false, false, false, false, false, false, false, false, false]
abbrev zB5_22 : Array Bool := #[true, true, true, true, true, true, true, true, true, true, true, true, true, true, true, true, true, true, true, true, true, true, false, false, false, false, false, false, false, false, false, false, false, false]
abbrev zB5_23 : Array Bool := #[true, true, true, true, true, true, true, true, true, true, true, true, true, true, true, true, true, true, true, true, true, true, true, false, false, false, false, false, false, false, false, false, false, false]
abbrev zB5_24 : Array Bool := #[true, true, true, true, true, true, true, true, true, true, true, true, true, true, true, true, true, true, true, true, true, true, true, true, false, false, false, false, false, false, false, false, false, false]
abbrev zB5_25 : Array Bool := #[true, true, true, true, true, true, true, true, true, true, true, true, true, true, true, true, true, true, true, true, true, true, true, true, true, false, false, false, false, false, false, false, false, false]
abbrev zB5_26 : Array Bool := #[true, true, true, true, true, true, true, true, true, true, true, true, true, true, true, true, true, true, true, true, true, true, true, true, true, true, false, false, false, false, false, false, false, false]
abbrev zB5_27 : Array Bool := #[true, true, true, true, true, true, true, true, true, true, true, true, true, true, true, true, true, true, true, true, true, true, true, true, true, true, true, false, false, false, false, false, false, false]
abbrev zB5_28 : Array Bool := #[true, true, true, true, true, true, true, true, true, true, true, true, true, true, true, true, true, true, true, true, true, true, true, true, true, true, true, true, false, false, false, false, false, false]
abbrev zB5_29 : Array Bool := #[true, true, true, true, true, true, true, true, true, true, true, true, true, true, true, true, true, true, true, true, true, true, true, true, true, true, true, true, true, false, false, false, false, false]
abbrev zB5_30 : Array Bool := #[true, true, true, true, true, true, true, true, true, true, true, true, true, true, true, true, true, true, true, true, true, true, true, true, true, true, true, true, true, true, false, false, false, false]
abbrev zB5_31 : Array Bool := #[true, true, true, true, true, true, true, true, true, true, true, true, true, true, true, true, true, true, true, true, true, true, true, true, true, true, true, true, true, true, true, false, false, false]
abbrev zB5_32 : Array Bool := #[true, true, true, true, true, true, true, true, true, true, true, true, true, true, true, true, true, true, true, true, true, true, true, true, true, true, true, true, true, true, true, true, false, false]
abbrev zB5_33 : Array Bool := #[true, true, true, true, true, true, true, true, true, true, true, true, true, true, true, true, true, true, true, true, true, true, true, true, true, true, true, true, true, true, true, true, true, false]
abbrev zB5_34 : Array Bool := #[true, true, true, true, true, true, true, true, true, true, true, true, true, true, true, true, true, true, true, true, true, true, true, true, true, true, true, true, true, true, true, true, true, true]
abbrev zB5_35 : Array Bool := #[true, true, true, true, true, true, true, true, true, true, true, true, true, true, true, true, true, true, true, true, true, false, true, false, false, false, false, false, false, false, false, false, false, false]
abbrev zB5_36 : Array Bool := #[true, true, true, true, true, true, true, true, true, true, true, true, true, true, true, true, true, true, true, true, true, false, true, true, false, false, false, false, false, false, false, false, false, false]
abbrev zB5_37 : Array Bool := #[true, true, true, true, true, true, true, true, true, true, true, true, true, true, true, true, true, true, true, true, true, false, true, true, true, false, false, false, false, false, false, false, false, false]
abbrev zB5_38 : Array Bool := #[true, true, true, true, true, true, true, true, true, true, true, true, true, true, true, true, true, true, true, true, true, false, true, true, true, false, true, false, false, false, false, false, false, false]
abbrev zB5_39 : Array Bool := #[true, true, true, true, true, true, true, true, true, true, true, true, true, true, true, true, true, true, true, true, true, false, true, true, true, false, true, false, true, false, false, false, false, false]
abbrev zB5_40 : Array Bool := #[true, true, true, true, true, true, true, true, true, true, true, true, true, true, true, true, true, true, true, true, true, true, true, true, true, false, true, false, true, false, false, false, false, false]
abbrev zB5_41 : Array Bool := #[true, true, true, true, true, true, true, true, true, true, true, true, true, true, true, true, true, true, true, true, true, true, true, true, true, true, true, false, true, false, false, false, false, false]

/-! ### impl_IsTableau: function 55 -/
mutual
def impl_IsTableau.l0 : Nat → List (List Int) → Int → Int → List Int → List (List Int) → Option (Bool)
 | 0, _, _, _, _, _ => none
 | k + 1, x17, x18, x19, x204000, x204001 => if x19 < x18 then (if 0 ≤ x19 then (if x19 < (x17.length : Int) then (impl_IsTableau.l1 k x19 (rd_L1 x17 x19) x17 x18 x19 (rd_L1 x17 x19) ((rd_L1 x17 x19).length : Int) 0 x204000 x204001) else (none)) else (none)) else (some true)
def impl_IsTableau.l1 : Nat → Int → List Int → List (List Int) → Int → Int → List Int → Int → Int → List Int → List (List Int) → Option (Bool)
 | 0, _, _, _, _, _, _, _, _, _, _ => none
 | k + 1, x5, x6, x17, x18, x19, x24, x25, x26, x204000, x204001 => if x26 < x25 then (if 0 ≤ x26 then (if x26 < (x24.length : Int) then ((impl_within.f (rd x24 x26) 1 9).bind fun t214 => (if t214 = true then (if x26 > 0 then (if 0 ≤ (wrap64 (x26 - 1)) then (if (wrap64 (x26 - 1)) < (x6.length : Int) then (if (rd x24 x26) < (rd x6 (wrap64 (x26 - 1))) then (some false) else (if x5 > 0 then ((impl_at.f x204000 x5).bind fun t216 => ((impl_Tableau_entry.f x204000 x204001 (wrap64 (x5 - 1)) (wrap64 (t216 + x26))).bind fun t217 => (if (rd x24 x26) ≤ t217 then (some false) else (impl_IsTableau.l1 k x5 x6 x17 x18 x19 x24 x25 (wrap64 (x26 + 1)) x204000 x204001)))) else (impl_IsTableau.l1 k x5 x6 x17 x18 x19 x24 x25 (wrap64 (x26 + 1)) x204000 x204001))) else (none)) else (none)) else (if x5 > 0 then ((impl_at.f x204000 x5).bind fun t218 => ((impl_Tableau_entry.f x204000 x204001 (wrap64 (x5 - 1)) (wrap64 (t218 + x26))).bind fun t219 => (if (rd x24 x26) ≤ t219 then (some false) else (impl_IsTableau.l1 k x5 x6 x17 x18 x19 x24 x25 (wrap64 (x26 + 1)) x204000 x204001)))) else (impl_IsTableau.l1 k x5 x6 x17 x18 x19 x24 x25 (wrap64 (x26 + 1)) x204000 x204001))) else (some false))) else (none)) else (none)) else (impl_IsTableau.l0 k x17 x18 (wrap64 (x19 + 1)) x204000 x204001)
end
def impl_IsTableau.f (k : Nat) (l0_0 : List Int) (l0_1 : List (List Int)) : Option (Bool) := (impl_ShapeOf.f k l0_0 l0_1).bind fun bt204 => (if bt204.2.2 = true then (impl_IsTableau.l0 k l0_1 (l0_1.length : Int) 0 l0_0 l0_1) else (some false))
theorem impl_IsTableau.mono_l : ∀ k, (∀ y0 y1 y2 y3 y4, LeO (impl_IsTableau.l0 k y0 y1 y2 y3 y4) (impl_IsTableau.l0 (k + 1) y0 y1 y2 y3 y4)) ∧ (∀ y0 y1 y2 y3 y4 y5 y6 y7 y8 y9, LeO (impl_IsTableau.l1 k y0 y1 y2 y3 y4 y5 y6 y7 y8 y9) (impl_IsTableau.l1 (k + 1) y0 y1 y2 y3 y4 y5 y6 y7 y8 y9))
 | 0 => ⟨fun _ _ _ _ _ r h => by simp [impl_IsTableau.l0] at h, fun _ _ _ _ _ _ _ _ _ _ r h => by simp [impl_IsTableau.l1] at h⟩
 | k + 1 => by
  obtain ⟨ih0, ih1⟩ := impl_IsTableau.mono_l k
  refine ⟨?_, ?_⟩
  ·intro y0 y1 y2 y3 y4
   unfold impl_IsTableau.l0
   repeat' first
   | (with_reducible exact ih0 _ _ _ _ _)
   | (with_reducible exact ih1 _ _ _ _ _ _ _ _ _ _)
   | (with_reducible exact impl_ShapeOf.mono _ _ _)
   | (with_reducible exact LeO.refl _)
   | (with_reducible exact LeO.none _)
   | (with_reducible refine LeO.ite ?_ ?_)
   | (with_reducible refine LeO.bind ?_ (fun _ => ?_))
   | exact ih0 _ _ _ _ _
   | exact ih1 _ _ _ _ _ _ _ _ _ _
   | exact impl_ShapeOf.mono _ _ _
   | exact LeO.none _
   | refine LeO.ite ?_ ?_
   | refine LeO.bind ?_ (fun _ => ?_)
  ·intro y0 y1 y2 y3 y4 y5 y6 y7 y8 y9
   unfold impl_IsTableau.l1
   repeat' first
   | (with_reducible exact ih0 _ _ _ _ _)
   | (with_reducible exact ih1 _ _ _ _ _ _ _ _ _ _)
   | (with_reducible exact impl_ShapeOf.mono _ _ _)
   | (with_reducible exact LeO.refl _)
   | (with_reducible exact LeO.none _)
   | (with_reducible refine LeO.ite ?_ ?_)
   | (with_reducible refine LeO.bind ?_ (fun _ => ?_))
   | exact ih0 _ _ _ _ _
   | exact ih1 _ _ _ _ _ _ _ _ _ _
   | exact impl_ShapeOf.mono _ _ _
   | exact LeO.none _
   | refine LeO.ite ?_ ?_
   | refine LeO.bind ?_ (fun _ => ?_)
theorem impl_IsTableau.mono : ∀ a0 a1 k, LeO (impl_IsTableau.f k a0 a1) (impl_IsTableau.f (k + 1) a0 a1) := by
 intro a0 a1 k
 obtain ⟨ih0, ih1⟩ := impl_IsTableau.mono_l k
 unfold impl_IsTableau.f
 repeat' first
   | (with_reducible exact ih0 _ _ _ _ _)
   | (with_reducible exact ih1 _ _ _ _ _ _ _ _ _ _)
   | (with_reducible exact impl_ShapeOf.mono _ _ _)
   | (with_reducible exact LeO.refl _)
   | (with_reducible exact LeO.none _)
   | (with_reducible refine LeO.ite ?_ ?_)
   | (with_reducible refine LeO.bind ?_ (fun _ => ?_))
   | exact ih0 _ _ _ _ _
   | exact ih1 _ _ _ _ _ _ _ _ _ _
   | exact impl_ShapeOf.mono _ _ _
   | exact LeO.none _
   | refine LeO.ite ?_ ?_
   | refine LeO.bind ?_ (fun _ => ?_)
def impl_IsTableau.T10 : Bool × List (List Nat × List Nat) := (true, [([], []), ([0], [0]), ([1], [1]), ([2, 1], [2]), ([3], [3]), ([4, 3], [3, 4]), ([5, 3, 3], [3, 5]), ([6], [6]), ([6], [6]), ([6], [6]), ([9, 6], [6, 9]), ([8, 10, 6], [6, 8, 10]), ([11, 6], [6, 11]), ([7, 12, 6], [6, 7, 12]), ([6, 13, 3], [3, 6, 13]), ([3, 14], [3, 14]), ([15, 6], [15]), ([16], [16]), ([17, 16], [16, 17]), ([18, 16, 16], [16, 18]), ([19], [19]), ([19], [19]), ([19], [19]), ([22, 19], [19, 22]), ([19], [19]), ([24, 19], [19, 24]), ([19], [19]), ([25, 26, 19, 19], [19, 25, 26]), ([19], [19]), ([27, 28, 19], [19, 27, 28]), ([21, 23, 29, 27, 19], [19, 21, 23, 29]), ([20, 30, 19], [19, 20, 30]), ([19, 31, 16], [16, 19, 31]), ([16, 32], [16, 32])])
def impl_IsTableau.B10 : List Nat := [0, 1, 3, 7, 15, 31, 63, 127, 127, 127, 639, 1919, 3967, 8191, 16383, 32767, 65535, 131071, 262143, 524287, 1048575, 1048575, 1048575, 5242879, 1048575, 17825791, 1048575, 118489087, 1048575, 521142271, 1072693247, 2147483647, 4294967295, 8589934591]
theorem impl_IsTableau.tab10 : rtab .any (opsOf Try.f55 10) = impl_IsTableau.T10 := by kernel_rfl
theorem impl_IsTableau.bits10 : waitsOk impl_IsTableau.T10.2 impl_IsTableau.B10 = true := by kernel_rfl
set_option maxHeartbeats 8000000 in
set_option maxRecDepth 100000 in
theorem impl_IsTableau.calls (k : Nat) (A0_0 : Option Addr) (c0_0 : Nat) (l0_0 : List Int) (A0_1 : Option Addr) (c0_1 : Nat) (l0_1 : List (List Int)) (r : Bool) (w : World) (hr0_0 : Kd.C (Kd.int .i64) w A0_0 l0_0.length l0_0) (hc0_0 : l0_0.length ≤ c0_0) (hr0_1 : Kd.C (Kd.slice 3 (Kd.int .i64)) w A0_1 l0_1.length l0_1) (hc0_1 : l0_1.length ≤ c0_1) (h : impl_IsTableau.f k l0_0 l0_1 = some r) :
  Calls Try.prog 55 #[.agg #[.slice A0_0 l0_0.length c0_0, .slice A0_1 l0_1.length c0_1]] w fun e w' => e = .returned (.bool r) ∧ Below w.heap.size w w' := by
 have hu26 := Try.underlying26
 have hu62 := Try.underlying62
 have HR0_0 := Aside0.mk hr0_0
 have HC0_0 := Aside0.mk hc0_0
 clear hr0_0 hc0_0
 have HR0_1 := Aside0.mk hr0_1
 have HC0_1 := Aside0.mk hc0_1
 clear hr0_1 hc0_1
 have HB := Aside0.mk (Below.refl w.heap.size w)
 have H : ((impl_ShapeOf.f k l0_0 l0_1).bind fun bt204 => (if bt204.2.2 = true then (impl_IsTableau.l0 k l0_1 (l0_1.length : Int) 0 l0_0 l0_1) else (some false))) = some r := h
 clear h
 replace H := Option.bind_eq_some_iff.mp H
 obtain ⟨⟨t204, t207, t210⟩, A20, H⟩ := H
 replace H : (if t210 = true then (impl_IsTableau.l0 k l0_1 (l0_1.length : Int) 0 l0_0 l0_1) else (some false)) = some r := H
 have A2 := Aside0.mk A20
 clear A20
 by_cases c3 : t210 = true
 ·subst c3
  have H1 : (impl_IsTableau.l0 k l0_1 (l0_1.length : Int) 0 l0_0 l0_1) = some r := by rw [if_pos rfl] at H; exact H
  clear H
  have H := H1
  clear H1
  have H' := Aside0.mk H
  clear H
  go_enter Try.func55, Try.ntmps55
  go_wp2_with (first | ((with_reducible refine gate_dst (N := 1) rfl ?_); refine zX (N := 1) (cs := #[.slice A0_0 l0_0.length c0_0, .slice A0_1 l0_1.length c0_1]) (t := 26) ?_; intro gb203 hg w4 hbox hb; have n0_ := Aside0.mk (below_step (by repeat (first | (with_reducible first | exact HB.out | apply below_alloc | apply pw_below_drewN | apply below_drew1) | exact HB.out)) hb); have n1_ := Aside0.mk (hbox); have n2_ := Aside0.mk ((by rw [hg]; exact (below_size (by repeat (first | (with_reducible first | exact HB.out | apply below_alloc | apply pw_below_drewN | apply below_drew1) | exact HB.out))) : w.heap.size ≤ gb203)); have n3_ := Aside0.mk ((by rw [hg]; exact (below_size (by repeat (first | (with_reducible first | exact HB.out | apply below_alloc | apply pw_below_drewN | apply below_drew1) | exact HB.out))) : w.heap.size ≤ gb203)); clear HB; have HB := n0_; have BK203 := n1_; have GW203 := n2_; have GE203 := n3_; clear n0_ n1_ n2_ n3_; clear hb hbox hg; have hcz5_0 : w4.cell? ⟨gb203, 0, none⟩ = some (.slice A0_0 l0_0.length c0_0) := (blk_cell BK203.out 0).trans rfl; have hcz5_1 : w4.cell? ⟨gb203, 1, none⟩ = some (.slice A0_1 l0_1.length c0_1) := (blk_cell BK203.out 1).trans rfl; have hfz5_0 := blk_frozen BK203.out 0; have hfz5_1 := blk_frozen BK203.out 1) | ((with_reducible refine gate_callee (f := 65) rfl ?_); refine zG (some 11) Try.func65 #[.agg #[.slice A0_0 l0_0.length c0_0, .slice A0_1 l0_1.length c0_1]] ?_; (with_reducible refine (impl_ShapeOf.calls k _ _ l0_0 _ _ l0_1 t204 t207 true _ ?side1 ?side2 ?side3 ?side4 A2.out).mono ?_); (case side1 => repeat (first | exact (Kd.C_below HR0_0.out HB.out) | (with_reducible refine Kd.C_alloc ?_ _) | (with_reducible refine Kd.C_drewN ?_ _) | (with_reducible refine Kd.C_drew ?_))); (case side2 => exact HC0_0.out); (case side3 => repeat (first | exact (Kd.C_below HR0_1.out HB.out) | (with_reducible refine Kd.C_alloc ?_ _) | (with_reducible refine Kd.C_drewN ?_ _) | (with_reducible refine Kd.C_drew ?_))); (case side4 => exact HC0_1.out); rintro e w6 ⟨v205, v208, rfl, ho0, ho1, hb⟩; refine ⟨_, rfl, ?_⟩; have n0_ := Aside0.mk (Kd.R_lower ho0 (below_size (by repeat (first | (with_reducible first | exact HB.out | apply below_alloc | apply pw_below_drewN | apply below_drew1 | refine below_set ?_ GE203.out) | exact HB.out)))); have n1_ := Aside0.mk (Kd.R_lower ho1 (below_size (by repeat (first | (with_reducible first | exact HB.out | apply below_alloc | apply pw_below_drewN | apply below_drew1 | refine below_set ?_ GE203.out) | exact HB.out)))); have n2_ := Aside0.mk (blk_below (g := gb203) (o := .cells #[.slice A0_0 l0_0.length c0_0, .slice A0_1 l0_1.length c0_1] 26 (0, 0)) (by (with_reducible repeat (first | refine blk_drewN ?_ _ | refine blk_drew ?_ | refine blk_alloc ?_ _)); exact BK203.out) hb); have n3_ := Aside0.mk (below_step (by repeat (first | (with_reducible first | exact HB.out | apply below_alloc | apply pw_below_drewN | apply below_drew1 | refine below_set ?_ GE203.out) | exact HB.out)) hb); clear BK203; clear HB; have HO206 := n0_; have HO209 := n1_; have BK203 := n2_; have HB := n3_; clear n0_ n1_ n2_ n3_; (try clear hb); (try clear hb2); (try clear hk); (try clear hi); (try clear ho0); (try clear ho1)) | ((with_reducible refine gate_dst (N := 3) rfl ?_); refine zX (N := 3) (cs := #[.slice none 0 0, .slice none 0 0]) (t := 62) ?_; intro gb211 hg w7 hbox hb; have n0_ := Aside0.mk (Kd.R_below (by (with_reducible repeat (first | apply Kd.R_alloc | apply Kd.R_drewN | apply Kd.R_drew)); exact HO206.out) hb); have n1_ := Aside0.mk (Kd.R_below (by (with_reducible repeat (first | apply Kd.R_alloc | apply Kd.R_drewN | apply Kd.R_drew)); exact HO209.out) hb); have n2_ := Aside0.mk (blk_below (g := gb203) (o := .cells #[.slice A0_0 l0_0.length c0_0, .slice A0_1 l0_1.length c0_1] 26 (0, 0)) (by (with_reducible repeat (first | refine blk_drewN ?_ _ | refine blk_drew ?_ | refine blk_alloc ?_ _)); exact BK203.out) hb); have n3_ := Aside0.mk (below_step (by repeat (first | (with_reducible first | exact HB.out | apply below_alloc | apply pw_below_drewN | apply below_drew1 | refine below_set ?_ GE203.out) | exact HB.out)) hb); have n4_ := Aside0.mk (hbox); have n5_ := Aside0.mk ((by rw [hg]; exact (below_size (by repeat (first | (with_reducible first | exact HB.out | apply below_alloc | apply pw_below_drewN | apply below_drew1 | refine below_set ?_ GE203.out) | exact HB.out))) : w.heap.size ≤ gb211)); have n6_ := Aside0.mk ((by rw [hg]; exact (below_size (by repeat (first | (with_reducible first | exact HB.out | apply below_alloc | apply pw_below_drewN | apply below_drew1 | refine below_set ?_ GE203.out) | exact HB.out))) : w.heap.size ≤ gb211)); have n7_ := Aside0.mk ((by rw [hg]; exact Nat.ne_of_lt (blk_lt (g := gb203) (o := .cells #[.slice A0_0 l0_0.length c0_0, .slice A0_1 l0_1.length c0_1] 26 (0, 0)) (by (with_reducible repeat (first | refine blk_drewN ?_ _ | refine blk_drew ?_ | refine blk_alloc ?_ _)); exact BK203.out)) : gb203 ≠ gb211)); have n8_ := Aside0.mk ((by rw [hg]; exact Nat.ne_of_gt (blk_lt (g := gb203) (o := .cells #[.slice A0_0 l0_0.length c0_0, .slice A0_1 l0_1.length c0_1] 26 (0, 0)) (by (with_reducible repeat (first | refine blk_drewN ?_ _ | refine blk_drew ?_ | refine blk_alloc ?_ _)); exact BK203.out)) : gb211 ≠ gb203)); clear HO206; clear HO209; clear BK203; clear HB; have HO206 := n0_; have HO209 := n1_; have BK203 := n2_; have HB := n3_; have BK211 := n4_; have GW211 := n5_; have GE211 := n6_; have NB203_211 := n7_; have NB211_203 := n8_; clear n0_ n1_ n2_ n3_ n4_ n5_ n6_ n7_ n8_; clear hb hbox hg; obtain ⟨Ao8, co8, eo8⟩ := Kd.R_slice HO206.out; subst eo8; have hnb9 := NB211_203.out; have hnc9 := NB203_211.out; have hcz10_0 : w7.cell? ⟨gb211, 0, none⟩ = some (.slice none 0 0) := (blk_cell BK211.out 0).trans rfl; have hcz10_1 : w7.cell? ⟨gb211, 1, none⟩ = some (.slice none 0 0) := (blk_cell BK211.out 1).trans rfl; have hfz10_0 := blk_frozen BK211.out 0; have hfz10_1 := blk_frozen BK211.out 1; obtain ⟨Ao11, co11, eo11⟩ := Kd.R_slice HO209.out; subst eo11; have hcz12_0 : w7.cell? ⟨gb203, 0, none⟩ = some (.slice A0_0 l0_0.length c0_0) := (blk_cell BK203.out 0).trans rfl; have hcz12_1 : w7.cell? ⟨gb203, 1, none⟩ = some (.slice A0_1 l0_1.length c0_1) := (blk_cell BK203.out 1).trans rfl; have hfz12_0 := blk_frozen BK203.out 0; have hfz12_1 := blk_frozen BK203.out 1))
  go_loopg [19] k (fun kq v19 w' => ∃ (x19_1 : Int), v19 = .int .i64 x19_1 ∧ Aside0 (impl_IsTableau.l0 kq l0_1 (l0_1.length : Int) x19_1 l0_0 l0_1 = some r) ∧ Aside0 (kq ≤ k) ∧ Aside0 (Kd.R (Kd.int .i64) 3 w' w.heap.size (fun k_ => some k_ ≠ ((.slice Ao11 t207.length co11) : Value).ownBlock) (.slice Ao8 t204.length co8) t204) ∧ Aside0 (Kd.R (Kd.int .i64) 3 w' w.heap.size (fun k_ => some k_ ≠ ((.slice Ao8 t204.length co8) : Value).ownBlock) (.slice Ao11 t207.length co11) t207) ∧ Aside0 (w'.heap[gb203]? = some (.cells #[(.slice A0_0 l0_0.length c0_0), (.slice A0_1 l0_1.length c0_1)] 26 (0, 0))) ∧ Aside0 (w'.heap[gb211]? = some (.cells #[(.slice Ao8 t204.length co8), (.slice Ao11 t207.length co11)] 62 (0, 0))) ∧ Aside0 (Below w.heap.size w w'))
  case atStart => exact ⟨(0), (by first | rfl | (simp; done) | (simp [*]; done)), H', ⟨Nat.le_refl _⟩, ⟨by (with_reducible repeat (first | apply Kd.R_alloc | apply Kd.R_drewN | apply Kd.R_drew)); exact Kd.R_mono (Kd.R_far (p := ⟨gb211, 1, none⟩) (Kd.R_far (p := ⟨gb211, 0, none⟩) (Kd.R_types HO206.out BK211.out (by decide)) (fun _ hk => hk.2) (.slice Ao8 t204.length co8)) (fun _ hk => hk.2) (.slice Ao11 t207.length co11)) (fun _ hk => hk.1)⟩, ⟨by (with_reducible repeat (first | apply Kd.R_alloc | apply Kd.R_drewN | apply Kd.R_drew)); exact Kd.R_mono (Kd.R_far (p := ⟨gb211, 1, none⟩) (Kd.R_far (p := ⟨gb211, 0, none⟩) (Kd.R_types HO209.out BK211.out (by decide)) (fun _ hk => hk.2) (.slice Ao8 t204.length co8)) (fun _ hk => hk.2) (.slice Ao11 t207.length co11)) (fun _ hk => hk.1)⟩, ⟨by (with_reducible repeat (first | refine blk_drewN ?_ _ | refine blk_drew ?_ | refine blk_alloc ?_ _)); refine blk_far ?_ NB203_211.out _; (with_reducible repeat (first | refine blk_drewN ?_ _ | refine blk_drew ?_ | refine blk_alloc ?_ _)); refine blk_far ?_ NB203_211.out _; (with_reducible repeat (first | refine blk_drewN ?_ _ | refine blk_drew ?_ | refine blk_alloc ?_ _)); exact BK203.out⟩, ⟨by (with_reducible repeat (first | refine blk_drewN ?_ _ | refine blk_drew ?_ | refine blk_alloc ?_ _)); refine blk_put (cs := #[.slice Ao8 t204.length co8, .slice none 0 0]) ?_ 1 _ rfl; (with_reducible repeat (first | refine blk_drewN ?_ _ | refine blk_drew ?_ | refine blk_alloc ?_ _)); refine blk_put (cs := #[.slice none 0 0, .slice none 0 0]) ?_ 0 _ rfl; (with_reducible repeat (first | refine blk_drewN ?_ _ | refine blk_drew ?_ | refine blk_alloc ?_ _)); exact BK211.out⟩, ⟨by repeat (first | (with_reducible first | exact HB.out | apply below_alloc | apply pw_below_drewN | apply below_drew1 | refine below_set ?_ GE203.out | refine below_set ?_ GE211.out) | exact HB.out)⟩⟩
  case round =>
   clear H'
   try clear p2
   try clear c3
   try clear c5
   try clear c6
   try clear c9
   try clear hcz10_0
   try clear hcz10_1
   try clear hcz12_0
   try clear hcz12_1
   try clear hcz5_0
   try clear hcz5_1
   try clear hfz10_0
   try clear hfz10_1
   try clear hfz12_0
   try clear hfz12_1
   try clear hfz5_0
   try clear hfz5_1
   obtain ⟨x19_1, rfl, HA, HK1, HO_212000, HO_212001, BK203, BK211, HB⟩ := hrel
   cases gk with
   | zero => exact absurd HA.out (by simp [impl_IsTableau.l0])
   | succ k1 =>
    have H := HA.out
    clear HA
    simp only [impl_IsTableau.l0] at H
    by_cases c13 : x19_1 < (l0_1.length : Int)
    ·rw [if_pos c13] at H
     have c13b0 : decide (x19_1 < (l0_1.length : Int)) = true := decide_eq_true c13
     clear c13
     by_cases c14 : 0 ≤ x19_1
     ·rw [if_pos c14] at H
      have c14b0 : decide (0 ≤ x19_1) = true := decide_eq_true c14
      clear c14
      by_cases c15 : x19_1 < (l0_1.length : Int)
      ·rw [if_pos c15] at H
       have c15b0 : decide (x19_1 < (l0_1.length : Int)) = true := decide_eq_true c15
       clear c15
       have H' := Aside0.mk H
       clear H
       have p212 : 0 ≤ (x19_1 : Int) := of_decide_eq_true (by first | (with_reducible assumption) | assumption)
       have q212 : x19_1 < (l0_1.length : Int) := of_decide_eq_true (by first | (with_reducible assumption) | assumption)
       obtain ⟨ad212, A212_0, c212_0, e212, hx212_0, hl212_0, hi212_0⟩ := at_L1 HR0_1.out x19_1 p212 q212
       cases e212
       replace hx212_0 := (HB.out.cell (World.block_lt_of_cell? w _ hx212_0)).trans hx212_0
       have HR212_0 := Aside0.mk hi212_0
       have HC212_0 := Aside0.mk hl212_0
       clear hi212_0 hl212_0
       replace p212 := eq_true p212
       replace q212 := eq_true q212
       go_wp2
       go_loopg [26] k1 (fun kq v26 w' => ∃ (x26_2 : Int), v26 = .int .i64 x26_2 ∧ Aside0 (impl_IsTableau.l1 kq x19_1 (rd_L1 l0_1 x19_1) l0_1 (l0_1.length : Int) x19_1 (rd_L1 l0_1 x19_1) ((rd_L1 l0_1 x19_1).length : Int) x26_2 l0_0 l0_1 = some r) ∧ Aside0 (kq ≤ k1) ∧ Aside0 (Kd.R (Kd.int .i64) 3 w' w.heap.size (fun k_ => some k_ ≠ ((.slice Ao11 t207.length co11) : Value).ownBlock) (.slice Ao8 t204.length co8) t204) ∧ Aside0 (Kd.R (Kd.int .i64) 3 w' w.heap.size (fun k_ => some k_ ≠ ((.slice Ao8 t204.length co8) : Value).ownBlock) (.slice Ao11 t207.length co11) t207) ∧ Aside0 (w'.heap[gb203]? = some (.cells #[(.slice A0_0 l0_0.length c0_0), (.slice (some ad212) l0_1.length c0_1)] 26 (0, 0))) ∧ Aside0 (w'.heap[gb211]? = some (.cells #[(.slice Ao8 t204.length co8), (.slice Ao11 t207.length co11)] 62 (0, 0))) ∧ Aside0 (Below w.heap.size w w'))
       case atStart => exact ⟨(0), (by first | rfl | (simp; done) | (simp [*]; done)), H', ⟨Nat.le_refl _⟩, ⟨by (with_reducible repeat (first | apply Kd.R_alloc | apply Kd.R_drewN | apply Kd.R_drew)); exact HO_212000.out⟩, ⟨by (with_reducible repeat (first | apply Kd.R_alloc | apply Kd.R_drewN | apply Kd.R_drew)); exact HO_212001.out⟩, ⟨by (with_reducible repeat (first | refine blk_drewN ?_ _ | refine blk_drew ?_ | refine blk_alloc ?_ _)); exact BK203.out⟩, ⟨by (with_reducible repeat (first | refine blk_drewN ?_ _ | refine blk_drew ?_ | refine blk_alloc ?_ _)); exact BK211.out⟩, ⟨by repeat (first | (with_reducible first | exact HB.out | apply below_alloc | apply pw_below_drewN | apply below_drew1 | refine below_set ?_ GE203.out | refine below_set ?_ GE211.out) | exact HB.out)⟩⟩
       case round =>
        clear H'
        try clear c1
        try clear c2
        try clear p2
        try clear q2
        try clear hx2
        try clear c3
        try clear c5
        try clear c6
        try clear c9
        try clear c13
        try clear c13b0
        try clear c14
        try clear c14b0
        try clear c15
        try clear c15b0
        try clear hcz10_0
        try clear hcz10_1
        try clear hcz12_0
        try clear hcz12_1
        try clear hcz5_0
        try clear hcz5_1
        try clear hfz10_0
        try clear hfz10_1
        try clear hfz12_0
        try clear hfz12_1
        try clear hfz5_0
        try clear hfz5_1
        try clear hx212_0
        try clear p2
        try clear p212
        try clear q212
        obtain ⟨x26_2, rfl, HA, HK2, HO_212000, HO_212001, BK203, BK211, HB⟩ := hrel
        cases gk with
        | zero => exact absurd HA.out (by simp [impl_IsTableau.l1])
        | succ k2 =>
         have H := HA.out
         clear HA
         simp only [impl_IsTableau.l1] at H
         by_cases c16 : x26_2 < ((rd_L1 l0_1 x19_1).length : Int)
         ·rw [if_pos c16] at H
          have c16b0 : decide (x26_2 < ((rd_L1 l0_1 x19_1).length : Int)) = true := decide_eq_true c16
          clear c16
          by_cases c17 : 0 ≤ x26_2
          ·rw [if_pos c17] at H
           have c17b0 : decide (0 ≤ x26_2) = true := decide_eq_true c17
           clear c17
           by_cases c18 : x26_2 < ((rd_L1 l0_1 x19_1).length : Int)
           ·rw [if_pos c18] at H
            have c18b0 : decide (x26_2 < ((rd_L1 l0_1 x19_1).length : Int)) = true := decide_eq_true c18
            clear c18
            replace H := Option.bind_eq_some_iff.mp H
            obtain ⟨t214, A190, H⟩ := H
            replace H : (if t214 = true then (if x26_2 > 0 then (if 0 ≤ (wrap64 (x26_2 - 1)) then (if (wrap64 (x26_2 - 1)) < ((rd_L1 l0_1 x19_1).length : Int) then (if (rd (rd_L1 l0_1 x19_1) x26_2) < (rd (rd_L1 l0_1 x19_1) (wrap64 (x26_2 - 1))) then (some false) else (if x19_1 > 0 then ((impl_at.f l0_0 x19_1).bind fun t216 => ((impl_Tableau_entry.f l0_0 l0_1 (wrap64 (x19_1 - 1)) (wrap64 (t216 + x26_2))).bind fun t217 => (if (rd (rd_L1 l0_1 x19_1) x26_2) ≤ t217 then (some false) else (impl_IsTableau.l1 k2 x19_1 (rd_L1 l0_1 x19_1) l0_1 (l0_1.length : Int) x19_1 (rd_L1 l0_1 x19_1) ((rd_L1 l0_1 x19_1).length : Int) (wrap64 (x26_2 + 1)) l0_0 l0_1)))) else (impl_IsTableau.l1 k2 x19_1 (rd_L1 l0_1 x19_1) l0_1 (l0_1.length : Int) x19_1 (rd_L1 l0_1 x19_1) ((rd_L1 l0_1 x19_1).length : Int) (wrap64 (x26_2 + 1)) l0_0 l0_1))) else (none)) else (none)) else (if x19_1 > 0 then ((impl_at.f l0_0 x19_1).bind fun t218 => ((impl_Tableau_entry.f l0_0 l0_1 (wrap64 (x19_1 - 1)) (wrap64 (t218 + x26_2))).bind fun t219 => (if (rd (rd_L1 l0_1 x19_1) x26_2) ≤ t219 then (some false) else (impl_IsTableau.l1 k2 x19_1 (rd_L1 l0_1 x19_1) l0_1 (l0_1.length : Int) x19_1 (rd_L1 l0_1 x19_1) ((rd_L1 l0_1 x19_1).length : Int) (wrap64 (x26_2 + 1)) l0_0 l0_1)))) else (impl_IsTableau.l1 k2 x19_1 (rd_L1 l0_1 x19_1) l0_1 (l0_1.length : Int) x19_1 (rd_L1 l0_1 x19_1) ((rd_L1 l0_1 x19_1).length : Int) (wrap64 (x26_2 + 1)) l0_0 l0_1))) else (some false)) = some r := H
            have A19 := Aside0.mk A190
            clear A190
            by_cases c20 : t214 = true
            ·subst c20
             have H1 : (if x26_2 > 0 then (if 0 ≤ (wrap64 (x26_2 - 1)) then (if (wrap64 (x26_2 - 1)) < ((rd_L1 l0_1 x19_1).length : Int) then (if (rd (rd_L1 l0_1 x19_1) x26_2) < (rd (rd_L1 l0_1 x19_1) (wrap64 (x26_2 - 1))) then (some false) else (if x19_1 > 0 then ((impl_at.f l0_0 x19_1).bind fun t216 => ((impl_Tableau_entry.f l0_0 l0_1 (wrap64 (x19_1 - 1)) (wrap64 (t216 + x26_2))).bind fun t217 => (if (rd (rd_L1 l0_1 x19_1) x26_2) ≤ t217 then (some false) else (impl_IsTableau.l1 k2 x19_1 (rd_L1 l0_1 x19_1) l0_1 (l0_1.length : Int) x19_1 (rd_L1 l0_1 x19_1) ((rd_L1 l0_1 x19_1).length : Int) (wrap64 (x26_2 + 1)) l0_0 l0_1)))) else (impl_IsTableau.l1 k2 x19_1 (rd_L1 l0_1 x19_1) l0_1 (l0_1.length : Int) x19_1 (rd_L1 l0_1 x19_1) ((rd_L1 l0_1 x19_1).length : Int) (wrap64 (x26_2 + 1)) l0_0 l0_1))) else (none)) else (none)) else (if x19_1 > 0 then ((impl_at.f l0_0 x19_1).bind fun t218 => ((impl_Tableau_entry.f l0_0 l0_1 (wrap64 (x19_1 - 1)) (wrap64 (t218 + x26_2))).bind fun t219 => (if (rd (rd_L1 l0_1 x19_1) x26_2) ≤ t219 then (some false) else (impl_IsTableau.l1 k2 x19_1 (rd_L1 l0_1 x19_1) l0_1 (l0_1.length : Int) x19_1 (rd_L1 l0_1 x19_1) ((rd_L1 l0_1 x19_1).length : Int) (wrap64 (x26_2 + 1)) l0_0 l0_1)))) else (impl_IsTableau.l1 k2 x19_1 (rd_L1 l0_1 x19_1) l0_1 (l0_1.length : Int) x19_1 (rd_L1 l0_1 x19_1) ((rd_L1 l0_1 x19_1).length : Int) (wrap64 (x26_2 + 1)) l0_0 l0_1))) = some r := by rw [if_pos rfl] at H; exact H
             clear H
             have H := H1
             clear H1
             by_cases c21 : x26_2 > 0
             ·rw [if_pos c21] at H
              have c21b0 : decide (0 < x26_2) = true := decide_eq_true c21
              clear c21
              obtain ⟨ji22, hji22⟩ : ∃ j_ : Int, (wrap64 (x26_2 - 1)) = j_ := ⟨_, rfl⟩
              replace H : (if 0 ≤ (ji22) then (if (ji22) < ((rd_L1 l0_1 x19_1).length : Int) then (if (rd (rd_L1 l0_1 x19_1) x26_2) < (rd (rd_L1 l0_1 x19_1) (ji22)) then (some false) else (if x19_1 > 0 then ((impl_at.f l0_0 x19_1).bind fun t216 => ((impl_Tableau_entry.f l0_0 l0_1 (wrap64 (x19_1 - 1)) (wrap64 (t216 + x26_2))).bind fun t217 => (if (rd (rd_L1 l0_1 x19_1) x26_2) ≤ t217 then (some false) else (impl_IsTableau.l1 k2 x19_1 (rd_L1 l0_1 x19_1) l0_1 (l0_1.length : Int) x19_1 (rd_L1 l0_1 x19_1) ((rd_L1 l0_1 x19_1).length : Int) (wrap64 (x26_2 + 1)) l0_0 l0_1)))) else (impl_IsTableau.l1 k2 x19_1 (rd_L1 l0_1 x19_1) l0_1 (l0_1.length : Int) x19_1 (rd_L1 l0_1 x19_1) ((rd_L1 l0_1 x19_1).length : Int) (wrap64 (x26_2 + 1)) l0_0 l0_1))) else (none)) else (none)) = some r := by first | (rw [hji22] at H; exact H) | (simp only [hji22] at H ⊢; exact H)
              (try rw [hji22] at A19)
              have hji22w : (IntKind.i64.wrap (x26_2 - 1)) = ji22 := (i64_w _).trans hji22
              by_cases c23 : 0 ≤ (ji22)
              ·rw [if_pos c23] at H
               have c23b0 : decide (0 ≤ (ji22)) = true := decide_eq_true c23
               clear c23
               by_cases c24 : (ji22) < ((rd_L1 l0_1 x19_1).length : Int)
               ·rw [if_pos c24] at H
                have c24b0 : decide ((ji22) < ((rd_L1 l0_1 x19_1).length : Int)) = true := decide_eq_true c24
                clear c24
                by_cases c25 : (rd (rd_L1 l0_1 x19_1) x26_2) < (rd (rd_L1 l0_1 x19_1) (ji22))
                ·rw [if_pos c25] at H
                 have c25b0 : decide ((rd (rd_L1 l0_1 x19_1) x26_2) < (rd (rd_L1 l0_1 x19_1) (ji22))) = true := decide_eq_true c25
                 clear c25
                 obtain rfl := Option.some.inj H
                 have p213 : 0 ≤ (x26_2 : Int) := of_decide_eq_true (by first | (with_reducible assumption) | assumption)
                 have q213 : x26_2 < ((rd_L1 l0_1 x19_1).length : Int) := of_decide_eq_true (by first | (with_reducible assumption) | assumption)
                 obtain ⟨ad213, e213, hx213_0⟩ := Kd.at_int HR212_0.out x26_2 p213 q213
                 cases e213
                 replace hx213_0 := (HB.out.cell (World.block_lt_of_cell? w _ hx213_0)).trans hx213_0
                 replace p213 := eq_true p213
                 replace q213 := eq_true q213
                 try go_wp2
                 have n0_ := Aside0.mk (Kd.R_drew HO_212000.out)
                 have n1_ := Aside0.mk (Kd.R_drew HO_212001.out)
                 have n2_ := Aside0.mk (blk_drew BK203.out)
                 have n3_ := Aside0.mk (blk_drew BK211.out)
                 have n4_ := Aside0.mk (below_drew1 HB.out)
                 clear HO_212000
                 clear HO_212001
                 clear BK203
                 clear BK211
                 clear HB
                 have HO_212000 := n0_
                 have HO_212001 := n1_
                 have BK203 := n2_
                 have BK211 := n3_
                 have HB := n4_
                 clear n0_ n1_ n2_ n3_ n4_
                 have p215 : 0 ≤ ((ji22) : Int) := of_decide_eq_true (by first | (with_reducible assumption) | assumption)
                 have q215 : (ji22) < ((rd_L1 l0_1 x19_1).length : Int) := of_decide_eq_true (by first | (with_reducible assumption) | assumption)
                 obtain ⟨ad215, e215, hx215_0⟩ := Kd.at_int HR212_0.out (ji22) p215 q215
                 have hw215_0 := hx215_0
                 obtain rfl : ad213 = ad215 := (by injection e215)
                 replace hx215_0 := (HB.out.cell (World.block_lt_of_cell? w _ hx215_0)).trans hx215_0
                 replace p215 := eq_true p215
                 replace q215 := eq_true q215
                 refine start_ (n := 34) (S := fun w' => w'.cell? (ad213.add ((ji22)).toNat) = some (.int .i64 (rd (rd_L1 l0_1 x19_1) (ji22)))) (ds := []) zB5_0 (by kernel_rfl) rfl rfl (((HB.out.cell (World.block_lt_of_cell? w _ hw215_0)).trans hw215_0)) (fun hHeld => ?_); refine with_tabW impl_IsTableau.tab10 impl_IsTableau.bits10 (fun HT_ HW_ => ?_)
                 generalize wr.drew = w26 at HO_212000 HO_212001 BK203 BK211 HB hx215_0 hHeld ⊢
                 refine zP (i := 0) (N := some 31) zB5_1 (any_of HT_.out (by kernel_rfl)) ?_
                 refine one_ (i := 1) (N := some 32) zB5_2 rfl rfl (one_of HT_.out (by kernel_rfl)) (by decide) (fun K hK => ?_)
                 refine zC Try.func54 #[.int .i64 (rd (rd_L1 l0_1 x19_1) x26_2), .int .i64 1, .int .i64 9] ?_
                 with_reducible refine (impl_within.calls (rd (rd_L1 l0_1 x19_1) x26_2) 1 9 true _ A19.out).mono ?_
                 rintro e w' ⟨rfl, ⟨nd, rfl⟩⟩
                 refine ⟨_, rfl, ?_⟩
                 refine hK.out _ _ (((HB.out.cell (World.block_lt_of_cell? w _ hw215_0)).trans hw215_0)) (fun hHeld => ?_)
                 clear hK K
                 refine norm_ (a' := ?_) ?_ ?_
                 rotate_left
                 ·show Act.put _ (some 32) _ = _
                  simp only [Act.put, List.setIfInBounds_toArray, List.set_cons_zero, List.set_cons_succ, i64_w, i32_w]
                  rfl
                 refine zP (i := 2) (N := some 33) zB5_3 (any_of HT_.out (by kernel_rfl)) ?_
                 refine zP (i := 3) (N := some 34) zB5_4 (any_of HT_.out (by kernel_rfl)) ?_
                 refine zP (i := 4) (N := some 35) zB5_5 (any_of HT_.out (by kernel_rfl)) ?_
                 refine zP (i := 5) (N := some 36) zB5_6 (any_of HT_.out (by kernel_rfl)) ?_
                 refine zP (i := 6) (N := some 37) zB5_7 (any_of HT_.out (by kernel_rfl)) ?_
                 refine zP (i := 7) (N := some 38) zB5_8 (any_of HT_.out (by kernel_rfl)) ?_
                 refine zP (i := 8) (N := some 39) zB5_9 (any_of HT_.out (by kernel_rfl)) ?_
                 refine zP (i := 9) (N := some 40) zB5_10 (any_of HT_.out (by kernel_rfl)) ?_
                 refine zP (i := 10) (N := some 41) zB5_11 (any_of HT_.out (by kernel_rfl)) ?_
                 refine zP (i := 11) (N := some 42) zB5_12 (any_of HT_.out (by kernel_rfl)) ?_
                 refine zT1 (i := 12) (N := some 43) zB5_13 (take_ofW HT_.out HW_.out (by kernel_rfl)) hHeld ?_
                 refine zP (i := 13) (N := some 44) zB5_14 (any_of HT_.out (by kernel_rfl)) ?_
                 refine zP (i := 14) (N := some 45) zB5_15 (any_of HT_.out (by kernel_rfl)) ?_
                 refine zP (i := 15) (N := some 46) zB5_16 (any_of HT_.out (by kernel_rfl)) ?_
                 refine zP (i := 16) (N := some 47) zB5_17 (any_of HT_.out (by kernel_rfl)) ?_
                 refine zU (i := 17) (N := some 48) zB5_18 (any_of HT_.out (by kernel_rfl)) ?_
                 refine zU (i := 18) (N := some 49) zB5_19 (any_of HT_.out (by kernel_rfl)) ?_
                 refine zU (i := 19) (N := some 50) zB5_20 (any_of HT_.out (by kernel_rfl)) ?_
                 refine zU (i := 20) (N := some 51) zB5_21 (any_of HT_.out (by kernel_rfl)) ?_
                 refine zU (i := 21) (N := some 52) zB5_22 (any_of HT_.out (by kernel_rfl)) ?_
                 refine zU (i := 22) (N := some 53) zB5_23 (any_of HT_.out (by kernel_rfl)) ?_
                 refine zU (i := 23) (N := some 54) zB5_24 (any_of HT_.out (by kernel_rfl)) ?_
                 refine zU (i := 24) (N := some 55) zB5_25 (any_of HT_.out (by kernel_rfl)) ?_
                 refine zU (i := 25) (N := some 56) zB5_26 (any_of HT_.out (by kernel_rfl)) ?_
                 refine zU (i := 26) (N := some 57) zB5_27 (any_of HT_.out (by kernel_rfl)) ?_
                 refine zU (i := 27) (N := some 58) zB5_28 (any_of HT_.out (by kernel_rfl)) ?_
                 refine zU (i := 28) (N := some 59) zB5_29 (any_of HT_.out (by kernel_rfl)) ?_
                 refine zU (i := 29) (N := some 60) zB5_30 (any_of HT_.out (by kernel_rfl)) ?_
                 refine zU (i := 30) (N := some 61) zB5_31 (any_of HT_.out (by kernel_rfl)) ?_
                 refine zU (i := 31) (N := some 62) zB5_32 (any_of HT_.out (by kernel_rfl)) ?_
                 refine zU (i := 32) (N := some 63) zB5_33 (any_of HT_.out (by kernel_rfl)) ?_
                 refine zP (i := 33) (N := some 64) zB5_34 (any_of HT_.out (by kernel_rfl)) ?_
                 refine done_ (done_of HT_.out (by kernel_rfl)) ?_
                 try go_wp2
                 go_ret
                 exact ⟨by first | rfl | (simp [errW_none, errW_some] <;> rfl) | (simp only [← hji22]; first | rfl | (simp [errW_none, errW_some] <;> rfl)) | (simp [*, errW_none, errW_some] <;> rfl), by repeat (first | (with_reducible first | exact HB.out | apply below_alloc | apply pw_below_drewN | apply below_drew1 | refine below_set ?_ GE203.out | refine below_set ?_ GE211.out) | exact HB.out)⟩
                ·rw [if_neg c25] at H
                 have c25b0 : decide ((rd (rd_L1 l0_1 x19_1) x26_2) < (rd (rd_L1 l0_1 x19_1) (ji22))) = false := decide_eq_false c25
                 clear c25
                 by_cases c27 : x19_1 > 0
                 ·rw [if_pos c27] at H
                  have c27b0 : decide (0 < x19_1) = true := decide_eq_true c27
                  clear c27
                  replace H := Option.bind_eq_some_iff.mp H
                  obtain ⟨t216, A280, H⟩ := H
                  replace H : ((impl_Tableau_entry.f l0_0 l0_1 (wrap64 (x19_1 - 1)) (wrap64 (t216 + x26_2))).bind fun t217 => (if (rd (rd_L1 l0_1 x19_1) x26_2) ≤ t217 then (some false) else (impl_IsTableau.l1 k2 x19_1 (rd_L1 l0_1 x19_1) l0_1 (l0_1.length : Int) x19_1 (rd_L1 l0_1 x19_1) ((rd_L1 l0_1 x19_1).length : Int) (wrap64 (x26_2 + 1)) l0_0 l0_1))) = some r := H
                  have A28 := Aside0.mk A280
                  clear A280
                  replace H := Option.bind_eq_some_iff.mp H
                  obtain ⟨t217, A290, H⟩ := H
                  replace H : (if (rd (rd_L1 l0_1 x19_1) x26_2) ≤ t217 then (some false) else (impl_IsTableau.l1 k2 x19_1 (rd_L1 l0_1 x19_1) l0_1 (l0_1.length : Int) x19_1 (rd_L1 l0_1 x19_1) ((rd_L1 l0_1 x19_1).length : Int) (wrap64 (x26_2 + 1)) l0_0 l0_1)) = some r := H
                  have A29 := Aside0.mk A290
                  clear A290
                  by_cases c30 : (rd (rd_L1 l0_1 x19_1) x26_2) ≤ t217
                  ·rw [if_pos c30] at H
                   have c30b0 : decide ((rd (rd_L1 l0_1 x19_1) x26_2) ≤ t217) = true := decide_eq_true c30
                   clear c30
                   obtain rfl := Option.some.inj H
                   have p213 : 0 ≤ (x26_2 : Int) := of_decide_eq_true (by first | (with_reducible assumption) | assumption)
                   have q213 : x26_2 < ((rd_L1 l0_1 x19_1).length : Int) := of_decide_eq_true (by first | (with_reducible assumption) | assumption)
                   obtain ⟨ad213, e213, hx213_0⟩ := Kd.at_int HR212_0.out x26_2 p213 q213
                   cases e213
                   replace hx213_0 := (HB.out.cell (World.block_lt_of_cell? w _ hx213_0)).trans hx213_0
                   replace p213 := eq_true p213
                   replace q213 := eq_true q213
                   try go_wp2
                   have n0_ := Aside0.mk (Kd.R_drew HO_212000.out)
                   have n1_ := Aside0.mk (Kd.R_drew HO_212001.out)
                   have n2_ := Aside0.mk (blk_drew BK203.out)
                   have n3_ := Aside0.mk (blk_drew BK211.out)
                   have n4_ := Aside0.mk (below_drew1 HB.out)
                   clear HO_212000
                   clear HO_212001
                   clear BK203
                   clear BK211
                   clear HB
                   have HO_212000 := n0_
                   have HO_212001 := n1_
                   have BK203 := n2_
                   have BK211 := n3_
                   have HB := n4_
                   clear n0_ n1_ n2_ n3_ n4_
                   have p215 : 0 ≤ ((ji22) : Int) := of_decide_eq_true (by first | (with_reducible assumption) | assumption)
                   have q215 : (ji22) < ((rd_L1 l0_1 x19_1).length : Int) := of_decide_eq_true (by first | (with_reducible assumption) | assumption)
                   obtain ⟨ad215, e215, hx215_0⟩ := Kd.at_int HR212_0.out (ji22) p215 q215
                   have hw215_0 := hx215_0
                   obtain rfl : ad213 = ad215 := (by injection e215)
                   replace hx215_0 := (HB.out.cell (World.block_lt_of_cell? w _ hx215_0)).trans hx215_0
                   replace p215 := eq_true p215
                   replace q215 := eq_true q215
                   refine start_ (n := 34) (S := fun w' => w'.cell? ⟨gb203, 0, none⟩ = some (.slice A0_0 l0_0.length c0_0) ∧ w'.cell? ⟨gb203, 1, none⟩ = some (.slice (some ad212) l0_1.length c0_1) ∧ w'.cell? (ad213.add ((ji22)).toNat) = some (.int .i64 (rd (rd_L1 l0_1 x19_1) (ji22)))) (ds := []) zB5_0 (by kernel_rfl) rfl rfl ⟨(blk_cell BK203.out 0).trans rfl, (blk_cell BK203.out 1).trans rfl, ((HB.out.cell (World.block_lt_of_cell? w _ hw215_0)).trans hw215_0)⟩ (fun hHeld => ?_); refine with_tabW impl_IsTableau.tab10 impl_IsTableau.bits10 (fun HT_ HW_ => ?_)
                   generalize wr.drew = w31 at HO_212000 HO_212001 BK203 BK211 HB hx215_0 hHeld ⊢
                   refine zP (i := 0) (N := some 31) zB5_1 (any_of HT_.out (by kernel_rfl)) ?_
                   refine one_ (i := 1) (N := some 32) zB5_2 rfl rfl (one_of HT_.out (by kernel_rfl)) (by decide) (fun K hK => ?_)
                   refine zC Try.func54 #[.int .i64 (rd (rd_L1 l0_1 x19_1) x26_2), .int .i64 1, .int .i64 9] ?_
                   with_reducible refine (impl_within.calls (rd (rd_L1 l0_1 x19_1) x26_2) 1 9 true _ A19.out).mono ?_
                   rintro e w' ⟨rfl, ⟨nd, rfl⟩⟩
                   refine ⟨_, rfl, ?_⟩
                   refine hK.out _ _ ⟨(blk_cell BK203.out 0).trans rfl, (blk_cell BK203.out 1).trans rfl, ((HB.out.cell (World.block_lt_of_cell? w _ hw215_0)).trans hw215_0)⟩ (fun hHeld => ?_)
                   clear hK K
                   refine norm_ (a' := ?_) ?_ ?_
                   rotate_left
                   ·show Act.put _ (some 32) _ = _
                    simp only [Act.put, List.setIfInBounds_toArray, List.set_cons_zero, List.set_cons_succ, i64_w, i32_w]
                    rfl
                   refine zP (i := 2) (N := some 33) zB5_3 (any_of HT_.out (by kernel_rfl)) ?_
                   refine zP (i := 3) (N := some 34) zB5_4 (any_of HT_.out (by kernel_rfl)) ?_
                   refine zP (i := 4) (N := some 35) zB5_5 (any_of HT_.out (by kernel_rfl)) ?_
                   refine zP (i := 5) (N := some 36) zB5_6 (any_of HT_.out (by kernel_rfl)) ?_
                   refine zP (i := 6) (N := some 37) zB5_7 (any_of HT_.out (by kernel_rfl)) ?_
                   refine zP (i := 7) (N := some 38) zB5_8 (any_of HT_.out (by kernel_rfl)) ?_
                   refine zP (i := 8) (N := some 39) zB5_9 (any_of HT_.out (by kernel_rfl)) ?_
                   refine zP (i := 9) (N := some 40) zB5_10 (any_of HT_.out (by kernel_rfl)) ?_
                   refine zP (i := 10) (N := some 41) zB5_11 (any_of HT_.out (by kernel_rfl)) ?_
                   refine zP (i := 11) (N := some 42) zB5_12 (any_of HT_.out (by kernel_rfl)) ?_
                   refine zT3 (i := 12) (N := some 43) zB5_13 (take_ofW HT_.out HW_.out (by kernel_rfl)) hHeld ?_
                   refine zP (i := 13) (N := some 44) zB5_14 (any_of HT_.out (by kernel_rfl)) ?_
                   refine zP (i := 14) (N := some 45) zB5_15 (any_of HT_.out (by kernel_rfl)) ?_
                   refine zP (i := 15) (N := some 46) zB5_16 (any_of HT_.out (by kernel_rfl)) ?_
                   refine zP (i := 16) (N := some 47) zB5_17 (any_of HT_.out (by kernel_rfl)) ?_
                   refine zP (i := 17) (N := some 48) zB5_18 (any_of HT_.out (by kernel_rfl)) ?_
                   refine zP (i := 18) (N := some 49) zB5_19 (any_of HT_.out (by kernel_rfl)) ?_
                   refine zP (i := 19) (N := some 50) zB5_20 (any_of HT_.out (by kernel_rfl)) ?_
                   refine zP (i := 20) (N := some 51) zB5_21 (any_of HT_.out (by kernel_rfl)) ?_
                   refine zP (i := 22) (N := some 53) zB5_35 (any_of HT_.out (by kernel_rfl)) ?_
                   refine zP (i := 23) (N := some 54) zB5_36 (any_of HT_.out (by kernel_rfl)) ?_
                   refine zP (i := 24) (N := some 55) zB5_37 (any_of HT_.out (by kernel_rfl)) ?_
                   refine zP (i := 26) (N := some 57) zB5_38 (any_of HT_.out (by kernel_rfl)) ?_
                   refine zP (i := 28) (N := some 59) zB5_39 (any_of HT_.out (by kernel_rfl)) ?_
                   refine zT3 (i := 21) (N := some 52) zB5_40 (take_ofW HT_.out HW_.out (by kernel_rfl)) hHeld ?_
                   refine zT3 (i := 25) (N := some 56) zB5_41 (take_ofW HT_.out HW_.out (by kernel_rfl)) hHeld ?_
                   refine one_ (i := 27) (N := some 58) zB5_29 rfl rfl (one_of HT_.out (by kernel_rfl)) (by decide) (fun K hK => ?_)
                   refine zC Try.func35 #[.slice A0_0 l0_0.length c0_0, .int .i64 x19_1] ?_
                   with_reducible refine (impl_at.calls _ _ l0_0 x19_1 t216 _ ?side1 ?side2 A28.out).mono ?_
                   (case side1 => repeat (first | exact (Kd.C_below HR0_0.out (by repeat (first | (with_reducible first | exact HB.out | apply below_alloc | apply pw_below_drewN | apply below_drew1 | refine below_set ?_ GE203.out | refine below_set ?_ GE211.out) | exact HB.out))) | (with_reducible refine Kd.C_alloc ?_ _) | (with_reducible refine Kd.C_drewN ?_ _) | (with_reducible refine Kd.C_drew ?_)))
                   (case side2 => exact HC0_0.out)
                   rintro e w' ⟨rfl, ⟨nd, rfl⟩⟩
                   refine ⟨_, rfl, ?_⟩
                   refine hK.out _ _ ⟨(blk_cell BK203.out 0).trans rfl, (blk_cell BK203.out 1).trans rfl, ((HB.out.cell (World.block_lt_of_cell? w _ hw215_0)).trans hw215_0)⟩ (fun hHeld => ?_)
                   clear hK K
                   refine norm_ (a' := ?_) ?_ ?_
                   rotate_left
                   ·show Act.put _ (some 58) _ = _
                    simp only [Act.put, List.setIfInBounds_toArray, List.set_cons_zero, List.set_cons_succ, i64_w, i32_w]
                    rfl
                   refine zP (i := 29) (N := some 60) zB5_30 (any_of HT_.out (by kernel_rfl)) ?_
                   refine one_ (i := 30) (N := some 61) zB5_31 rfl rfl (one_of HT_.out (by kernel_rfl)) (by decide) (fun K hK => ?_)
                   refine zC Try.func66 #[.agg #[.slice A0_0 l0_0.length c0_0, .slice (some ad212) l0_1.length c0_1], .int .i64 (wrap64 (x19_1 - 1)), .int .i64 (wrap64 (t216 + x26_2))] ?_
                   with_reducible refine (impl_Tableau_entry.calls _ _ l0_0 _ _ l0_1 (wrap64 (x19_1 - 1)) (wrap64 (t216 + x26_2)) t217 _ ?side1 ?side2 ?side3 ?side4 A29.out).mono ?_
                   (case side1 => repeat (first | exact (Kd.C_below HR0_0.out (by repeat (first | (with_reducible first | exact HB.out | apply below_alloc | apply pw_below_drewN | apply below_drew1 | refine below_set ?_ GE203.out | refine below_set ?_ GE211.out) | exact HB.out))) | (with_reducible refine Kd.C_alloc ?_ _) | (with_reducible refine Kd.C_drewN ?_ _) | (with_reducible refine Kd.C_drew ?_)))
                   (case side2 => exact HC0_0.out)
                   (case side3 => repeat (first | exact (Kd.C_below HR0_1.out (by repeat (first | (with_reducible first | exact HB.out | apply below_alloc | apply pw_below_drewN | apply below_drew1 | refine below_set ?_ GE203.out | refine below_set ?_ GE211.out) | exact HB.out))) | (with_reducible refine Kd.C_alloc ?_ _) | (with_reducible refine Kd.C_drewN ?_ _) | (with_reducible refine Kd.C_drew ?_)))
                   (case side4 => exact HC0_1.out)
                   rintro e w32 ⟨rfl, hb⟩
                   refine ⟨_, rfl, ?_⟩
                   have n0_ := Aside0.mk (Kd.R_below (by (with_reducible repeat (first | apply Kd.R_alloc | apply Kd.R_drewN | apply Kd.R_drew)); exact HO_212000.out) hb)
                   have n1_ := Aside0.mk (Kd.R_below (by (with_reducible repeat (first | apply Kd.R_alloc | apply Kd.R_drewN | apply Kd.R_drew)); exact HO_212001.out) hb)
                   have n2_ := Aside0.mk (blk_below (g := gb203) (o := .cells #[.slice A0_0 l0_0.length c0_0, .slice (some ad212) l0_1.length c0_1] 26 (0, 0)) (by (with_reducible repeat (first | refine blk_drewN ?_ _ | refine blk_drew ?_ | refine blk_alloc ?_ _)); exact BK203.out) hb)
                   have n3_ := Aside0.mk (blk_below (g := gb211) (o := .cells #[.slice Ao8 t204.length co8, .slice Ao11 t207.length co11] 62 (0, 0)) (by (with_reducible repeat (first | refine blk_drewN ?_ _ | refine blk_drew ?_ | refine blk_alloc ?_ _)); exact BK211.out) hb)
                   have n4_ := Aside0.mk (below_step (by repeat (first | (with_reducible first | exact HB.out | apply below_alloc | apply pw_below_drewN | apply below_drew1 | refine below_set ?_ GE203.out | refine below_set ?_ GE211.out) | exact HB.out)) hb)
                   clear HO_212000
                   clear HO_212001
                   clear BK203
                   clear BK211
                   clear HB
                   have HO_212000 := n0_
                   have HO_212001 := n1_
                   have BK203 := n2_
                   have BK211 := n3_
                   have HB := n4_
                   clear n0_ n1_ n2_ n3_ n4_
                   (try clear hb)
                   (try clear hb2)
                   (try clear hk)
                   (try clear hi)
                   refine hK.out _ _ ⟨(blk_cell BK203.out 0).trans rfl, (blk_cell BK203.out 1).trans rfl, ((HB.out.cell (World.block_lt_of_cell? w _ hw215_0)).trans hw215_0)⟩ (fun hHeld => ?_)
                   clear hK K
                   refine norm_ (a' := ?_) ?_ ?_
                   rotate_left
                   ·show Act.put _ (some 61) _ = _
                    simp only [Act.put, List.setIfInBounds_toArray, List.set_cons_zero, List.set_cons_succ, i64_w, i32_w]
                    rfl
                   refine zP (i := 31) (N := some 62) zB5_32 (any_of HT_.out (by kernel_rfl)) ?_
                   refine zP (i := 32) (N := some 63) zB5_33 (any_of HT_.out (by kernel_rfl)) ?_
                   refine zP (i := 33) (N := some 64) zB5_34 (any_of HT_.out (by kernel_rfl)) ?_
                   refine done_ (done_of HT_.out (by kernel_rfl)) ?_
                   try go_wp2
                   go_ret
                   exact ⟨by first | rfl | (simp [errW_none, errW_some] <;> rfl) | (simp only [← hji22]; first | rfl | (simp [errW_none, errW_some] <;> rfl)) | (simp [*, errW_none, errW_some] <;> rfl), by repeat (first | (with_reducible first | exact HB.out | apply below_alloc | apply pw_below_drewN | apply below_drew1 | refine below_set ?_ GE203.out | refine below_set ?_ GE211.out) | exact HB.out)⟩
                  ·rw [if_neg c30] at H
                   have c30b0 : decide ((rd (rd_L1 l0_1 x19_1) x26_2) ≤ t217) = false := decide_eq_false c30
                   clear c30
                   have H' := Aside0.mk H
                   clear H
                   have p213 : 0 ≤ (x26_2 : Int) := of_decide_eq_true (by first | (with_reducible assumption) | assumption)
                   have q213 : x26_2 < ((rd_L1 l0_1 x19_1).length : Int) := of_decide_eq_true (by first | (with_reducible assumption) | assumption)
                   obtain ⟨ad213, e213, hx213_0⟩ := Kd.at_int HR212_0.out x26_2 p213 q213
                   cases e213
                   replace hx213_0 := (HB.out.cell (World.block_lt_of_cell? w _ hx213_0)).trans hx213_0
                   replace p213 := eq_true p213
                   replace q213 := eq_true q213
                   try go_wp2
                   have n0_ := Aside0.mk (Kd.R_drew HO_212000.out)
                   have n1_ := Aside0.mk (Kd.R_drew HO_212001.out)
                   have n2_ := Aside0.mk (blk_drew BK203.out)
                   have n3_ := Aside0.mk (blk_drew BK211.out)
                   have n4_ := Aside0.mk (below_drew1 HB.out)
                   clear HO_212000
                   clear HO_212001
                   clear BK203
                   clear BK211
                   clear HB
                   have HO_212000 := n0_
                   have HO_212001 := n1_
                   have BK203 := n2_
                   have BK211 := n3_
                   have HB := n4_
                   clear n0_ n1_ n2_ n3_ n4_
                   have p215 : 0 ≤ ((ji22) : Int) := of_decide_eq_true (by first | (with_reducible assumption) | assumption)
                   have q215 : (ji22) < ((rd_L1 l0_1 x19_1).length : Int) := of_decide_eq_true (by first | (with_reducible assumption) | assumption)
                   obtain ⟨ad215, e215, hx215_0⟩ := Kd.at_int HR212_0.out (ji22) p215 q215
                   have hw215_0 := hx215_0
                   obtain rfl : ad213 = ad215 := (by injection e215)
                   replace hx215_0 := (HB.out.cell (World.block_lt_of_cell? w _ hx215_0)).trans hx215_0
                   replace p215 := eq_true p215
                   replace q215 := eq_true q215
                   refine start_ (n := 34) (S := fun w' => w'.cell? ⟨gb203, 0, none⟩ = some (.slice A0_0 l0_0.length c0_0) ∧ w'.cell? ⟨gb203, 1, none⟩ = some (.slice (some ad212) l0_1.length c0_1) ∧ w'.cell? (ad213.add ((ji22)).toNat) = some (.int .i64 (rd (rd_L1 l0_1 x19_1) (ji22)))) (ds := []) zB5_0 (by kernel_rfl) rfl rfl ⟨(blk_cell BK203.out 0).trans rfl, (blk_cell BK203.out 1).trans rfl, ((HB.out.cell (World.block_lt_of_cell? w _ hw215_0)).trans hw215_0)⟩ (fun hHeld => ?_); refine with_tabW impl_IsTableau.tab10 impl_IsTableau.bits10 (fun HT_ HW_ => ?_)
                   generalize wr.drew = w33 at HO_212000 HO_212001 BK203 BK211 HB hx215_0 hHeld ⊢
                   refine zP (i := 0) (N := some 31) zB5_1 (any_of HT_.out (by kernel_rfl)) ?_
                   refine one_ (i := 1) (N := some 32) zB5_2 rfl rfl (one_of HT_.out (by kernel_rfl)) (by decide) (fun K hK => ?_)
                   refine zC Try.func54 #[.int .i64 (rd (rd_L1 l0_1 x19_1) x26_2), .int .i64 1, .int .i64 9] ?_
                   with_reducible refine (impl_within.calls (rd (rd_L1 l0_1 x19_1) x26_2) 1 9 true _ A19.out).mono ?_
                   rintro e w' ⟨rfl, ⟨nd, rfl⟩⟩
                   refine ⟨_, rfl, ?_⟩
                   refine hK.out _ _ ⟨(blk_cell BK203.out 0).trans rfl, (blk_cell BK203.out 1).trans rfl, ((HB.out.cell (World.block_lt_of_cell? w _ hw215_0)).trans hw215_0)⟩ (fun hHeld => ?_)
                   clear hK K
                   refine norm_ (a' := ?_) ?_ ?_
                   rotate_left
                   ·show Act.put _ (some 32) _ = _
                    simp only [Act.put, List.setIfInBounds_toArray, List.set_cons_zero, List.set_cons_succ, i64_w, i32_w]
                    rfl
                   refine zP (i := 2) (N := some 33) zB5_3 (any_of HT_.out (by kernel_rfl)) ?_
                   refine zP (i := 3) (N := some 34) zB5_4 (any_of HT_.out (by kernel_rfl)) ?_
                   refine zP (i := 4) (N := some 35) zB5_5 (any_of HT_.out (by kernel_rfl)) ?_
                   refine zP (i := 5) (N := some 36) zB5_6 (any_of HT_.out (by kernel_rfl)) ?_
                   refine zP (i := 6) (N := some 37) zB5_7 (any_of HT_.out (by kernel_rfl)) ?_
                   refine zP (i := 7) (N := some 38) zB5_8 (any_of HT_.out (by kernel_rfl)) ?_
                   refine zP (i := 8) (N := some 39) zB5_9 (any_of HT_.out (by kernel_rfl)) ?_
                   refine zP (i := 9) (N := some 40) zB5_10 (any_of HT_.out (by kernel_rfl)) ?_
                   refine zP (i := 10) (N := some 41) zB5_11 (any_of HT_.out (by kernel_rfl)) ?_
                   refine zP (i := 11) (N := some 42) zB5_12 (any_of HT_.out (by kernel_rfl)) ?_
                   refine zT3 (i := 12) (N := some 43) zB5_13 (take_ofW HT_.out HW_.out (by kernel_rfl)) hHeld ?_
                   refine zP (i := 13) (N := some 44) zB5_14 (any_of HT_.out (by kernel_rfl)) ?_
                   refine zP (i := 14) (N := some 45) zB5_15 (any_of HT_.out (by kernel_rfl)) ?_
                   refine zP (i := 15) (N := some 46) zB5_16 (any_of HT_.out (by kernel_rfl)) ?_
                   refine zP (i := 16) (N := some 47) zB5_17 (any_of HT_.out (by kernel_rfl)) ?_
                   refine zP (i := 17) (N := some 48) zB5_18 (any_of HT_.out (by kernel_rfl)) ?_
                   refine zP (i := 18) (N := some 49) zB5_19 (any_of HT_.out (by kernel_rfl)) ?_
                   refine zP (i := 19) (N := some 50) zB5_20 (any_of HT_.out (by kernel_rfl)) ?_
                   refine zP (i := 20) (N := some 51) zB5_21 (any_of HT_.out (by kernel_rfl)) ?_
                   refine zP (i := 22) (N := some 53) zB5_35 (any_of HT_.out (by kernel_rfl)) ?_
                   refine zP (i := 23) (N := some 54) zB5_36 (any_of HT_.out (by kernel_rfl)) ?_
                   refine zP (i := 24) (N := some 55) zB5_37 (any_of HT_.out (by kernel_rfl)) ?_
                   refine zP (i := 26) (N := some 57) zB5_38 (any_of HT_.out (by kernel_rfl)) ?_
                   refine zP (i := 28) (N := some 59) zB5_39 (any_of HT_.out (by kernel_rfl)) ?_
                   refine zT3 (i := 21) (N := some 52) zB5_40 (take_ofW HT_.out HW_.out (by kernel_rfl)) hHeld ?_
                   refine zT3 (i := 25) (N := some 56) zB5_41 (take_ofW HT_.out HW_.out (by kernel_rfl)) hHeld ?_
                   refine one_ (i := 27) (N := some 58) zB5_29 rfl rfl (one_of HT_.out (by kernel_rfl)) (by decide) (fun K hK => ?_)
                   refine zC Try.func35 #[.slice A0_0 l0_0.length c0_0, .int .i64 x19_1] ?_
                   with_reducible refine (impl_at.calls _ _ l0_0 x19_1 t216 _ ?side1 ?side2 A28.out).mono ?_
                   (case side1 => repeat (first | exact (Kd.C_below HR0_0.out (by repeat (first | (with_reducible first | exact HB.out | apply below_alloc | apply pw_below_drewN | apply below_drew1 | refine below_set ?_ GE203.out | refine below_set ?_ GE211.out) | exact HB.out))) | (with_reducible refine Kd.C_alloc ?_ _) | (with_reducible refine Kd.C_drewN ?_ _) | (with_reducible refine Kd.C_drew ?_)))
                   (case side2 => exact HC0_0.out)
                   rintro e w' ⟨rfl, ⟨nd, rfl⟩⟩
                   refine ⟨_, rfl, ?_⟩
                   refine hK.out _ _ ⟨(blk_cell BK203.out 0).trans rfl, (blk_cell BK203.out 1).trans rfl, ((HB.out.cell (World.block_lt_of_cell? w _ hw215_0)).trans hw215_0)⟩ (fun hHeld => ?_)
                   clear hK K
                   refine norm_ (a' := ?_) ?_ ?_
                   rotate_left
                   ·show Act.put _ (some 58) _ = _
                    simp only [Act.put, List.setIfInBounds_toArray, List.set_cons_zero, List.set_cons_succ, i64_w, i32_w]
                    rfl
                   refine zP (i := 29) (N := some 60) zB5_30 (any_of HT_.out (by kernel_rfl)) ?_
                   refine one_ (i := 30) (N := some 61) zB5_31 rfl rfl (one_of HT_.out (by kernel_rfl)) (by decide) (fun K hK => ?_)
                   refine zC Try.func66 #[.agg #[.slice A0_0 l0_0.length c0_0, .slice (some ad212) l0_1.length c0_1], .int .i64 (wrap64 (x19_1 - 1)), .int .i64 (wrap64 (t216 + x26_2))] ?_
                   with_reducible refine (impl_Tableau_entry.calls _ _ l0_0 _ _ l0_1 (wrap64 (x19_1 - 1)) (wrap64 (t216 + x26_2)) t217 _ ?side1 ?side2 ?side3 ?side4 A29.out).mono ?_
                   (case side1 => repeat (first | exact (Kd.C_below HR0_0.out (by repeat (first | (with_reducible first | exact HB.out | apply below_alloc | apply pw_below_drewN | apply below_drew1 | refine below_set ?_ GE203.out | refine below_set ?_ GE211.out) | exact HB.out))) | (with_reducible refine Kd.C_alloc ?_ _) | (with_reducible refine Kd.C_drewN ?_ _) | (with_reducible refine Kd.C_drew ?_)))
                   (case side2 => exact HC0_0.out)
                   (case side3 => repeat (first | exact (Kd.C_below HR0_1.out (by repeat (first | (with_reducible first | exact HB.out | apply below_alloc | apply pw_below_drewN | apply below_drew1 | refine below_set ?_ GE203.out | refine below_set ?_ GE211.out) | exact HB.out))) | (with_reducible refine Kd.C_alloc ?_ _) | (with_reducible refine Kd.C_drewN ?_ _) | (with_reducible refine Kd.C_drew ?_)))
                   (case side4 => exact HC0_1.out)
                   rintro e w34 ⟨rfl, hb⟩
                   refine ⟨_, rfl, ?_⟩
                   have n0_ := Aside0.mk (Kd.R_below (by (with_reducible repeat (first | apply Kd.R_alloc | apply Kd.R_drewN | apply Kd.R_drew)); exact HO_212000.out) hb)
                   have n1_ := Aside0.mk (Kd.R_below (by (with_reducible repeat (first | apply Kd.R_alloc | apply Kd.R_drewN | apply Kd.R_drew)); exact HO_212001.out) hb)
                   have n2_ := Aside0.mk (blk_below (g := gb203) (o := .cells #[.slice A0_0 l0_0.length c0_0, .slice (some ad212) l0_1.length c0_1] 26 (0, 0)) (by (with_reducible repeat (first | refine blk_drewN ?_ _ | refine blk_drew ?_ | refine blk_alloc ?_ _)); exact BK203.out) hb)
                   have n3_ := Aside0.mk (blk_below (g := gb211) (o := .cells #[.slice Ao8 t204.length co8, .slice Ao11 t207.length co11] 62 (0, 0)) (by (with_reducible repeat (first | refine blk_drewN ?_ _ | refine blk_drew ?_ | refine blk_alloc ?_ _)); exact BK211.out) hb)
                   have n4_ := Aside0.mk (below_step (by repeat (first | (with_reducible first | exact HB.out | apply below_alloc | apply pw_below_drewN | apply below_drew1 | refine below_set ?_ GE203.out | refine below_set ?_ GE211.out) | exact HB.out)) hb)
                   clear HO_212000
                   clear HO_212001
                   clear BK203
                   clear BK211
                   clear HB
                   have HO_212000 := n0_
                   have HO_212001 := n1_
                   have BK203 := n2_
                   have BK211 := n3_
                   have HB := n4_
                   clear n0_ n1_ n2_ n3_ n4_
                   (try clear hb)
                   (try clear hb2)
                   (try clear hk)
                   (try clear hi)
                   refine hK.out _ _ ⟨(blk_cell BK203.out 0).trans rfl, (blk_cell BK203.out 1).trans rfl, ((HB.out.cell (World.block_lt_of_cell? w _ hw215_0)).trans hw215_0)⟩ (fun hHeld => ?_)
                   clear hK K
                   refine norm_ (a' := ?_) ?_ ?_
                   rotate_left
                   ·show Act.put _ (some 61) _ = _
                    simp only [Act.put, List.setIfInBounds_toArray, List.set_cons_zero, List.set_cons_succ, i64_w, i32_w]
                    rfl
                   refine zP (i := 31) (N := some 62) zB5_32 (any_of HT_.out (by kernel_rfl)) ?_
                   refine zP (i := 32) (N := some 63) zB5_33 (any_of HT_.out (by kernel_rfl)) ?_
                   refine zP (i := 33) (N := some 64) zB5_34 (any_of HT_.out (by kernel_rfl)) ?_
                   refine done_ (done_of HT_.out (by kernel_rfl)) ?_
                   try go_wp2
                   go_roundg k2
                   case measure => have := HK1.out; have := HK2.out; omega
                   case rel => exact ⟨(wrap64 (x26_2 + 1)), (by first | rfl | (simp; done) | (simp [*]; done)), H', ⟨by have := HK1.out; have := HK2.out; omega⟩, ⟨by (with_reducible repeat (first | apply Kd.R_alloc | apply Kd.R_drewN | apply Kd.R_drew)); exact HO_212000.out⟩, ⟨by (with_reducible repeat (first | apply Kd.R_alloc | apply Kd.R_drewN | apply Kd.R_drew)); exact HO_212001.out⟩, ⟨by (with_reducible repeat (first | refine blk_drewN ?_ _ | refine blk_drew ?_ | refine blk_alloc ?_ _)); exact BK203.out⟩, ⟨by (with_reducible repeat (first | refine blk_drewN ?_ _ | refine blk_drew ?_ | refine blk_alloc ?_ _)); exact BK211.out⟩, ⟨by repeat (first | (with_reducible first | exact HB.out | apply below_alloc | apply pw_below_drewN | apply below_drew1 | refine below_set ?_ GE203.out | refine below_set ?_ GE211.out) | exact HB.out)⟩⟩
                 ·rw [if_neg c27] at H
                  have c27b0 : decide (0 < x19_1) = false := decide_eq_false c27
                  clear c27
                  have H' := Aside0.mk H
                  clear H
                  have p213 : 0 ≤ (x26_2 : Int) := of_decide_eq_true (by first | (with_reducible assumption) | assumption)
                  have q213 : x26_2 < ((rd_L1 l0_1 x19_1).length : Int) := of_decide_eq_true (by first | (with_reducible assumption) | assumption)
                  obtain ⟨ad213, e213, hx213_0⟩ := Kd.at_int HR212_0.out x26_2 p213 q213
                  cases e213
                  replace hx213_0 := (HB.out.cell (World.block_lt_of_cell? w _ hx213_0)).trans hx213_0
                  replace p213 := eq_true p213
                  replace q213 := eq_true q213
                  try go_wp2
                  have n0_ := Aside0.mk (Kd.R_drew HO_212000.out)
                  have n1_ := Aside0.mk (Kd.R_drew HO_212001.out)
                  have n2_ := Aside0.mk (blk_drew BK203.out)
                  have n3_ := Aside0.mk (blk_drew BK211.out)
                  have n4_ := Aside0.mk (below_drew1 HB.out)
                  clear HO_212000
                  clear HO_212001
                  clear BK203
                  clear BK211
                  clear HB
                  have HO_212000 := n0_
                  have HO_212001 := n1_
                  have BK203 := n2_
                  have BK211 := n3_
                  have HB := n4_
                  clear n0_ n1_ n2_ n3_ n4_
                  have p215 : 0 ≤ ((ji22) : Int) := of_decide_eq_true (by first | (with_reducible assumption) | assumption)
                  have q215 : (ji22) < ((rd_L1 l0_1 x19_1).length : Int) := of_decide_eq_true (by first | (with_reducible assumption) | assumption)
                  obtain ⟨ad215, e215, hx215_0⟩ := Kd.at_int HR212_0.out (ji22) p215 q215
                  have hw215_0 := hx215_0
                  obtain rfl : ad213 = ad215 := (by injection e215)
                  replace hx215_0 := (HB.out.cell (World.block_lt_of_cell? w _ hx215_0)).trans hx215_0
                  replace p215 := eq_true p215
                  replace q215 := eq_true q215
                  refine start_ (n := 34) (S := fun w' => w'.cell? (ad213.add ((ji22)).toNat) = some (.int .i64 (rd (rd_L1 l0_1 x19_1) (ji22)))) (ds := []) zB5_0 (by kernel_rfl) rfl rfl (((HB.out.cell (World.block_lt_of_cell? w _ hw215_0)).trans hw215_0)) (fun hHeld => ?_); refine with_tabW impl_IsTableau.tab10 impl_IsTableau.bits10 (fun HT_ HW_ => ?_)
                  generalize wr.drew = w35 at HO_212000 HO_212001 BK203 BK211 HB hx215_0 hHeld ⊢
                  refine zP (i := 0) (N := some 31) zB5_1 (any_of HT_.out (by kernel_rfl)) ?_
                  refine one_ (i := 1) (N := some 32) zB5_2 rfl rfl (one_of HT_.out (by kernel_rfl)) (by decide) (fun K hK => ?_)
                  refine zC Try.func54 #[.int .i64 (rd (rd_L1 l0_1 x19_1) x26_2), .int .i64 1, .int .i64 9] ?_
                  with_reducible refine (impl_within.calls (rd (rd_L1 l0_1 x19_1) x26_2) 1 9 true _ A19.out).mono ?_
                  rintro e w' ⟨rfl, ⟨nd, rfl⟩⟩
                  refine ⟨_, rfl, ?_⟩
                  refine hK.out _ _ (((HB.out.cell (World.block_lt_of_cell? w _ hw215_0)).trans hw215_0)) (fun hHeld => ?_)
                  clear hK K
                  refine norm_ (a' := ?_) ?_ ?_
                  rotate_left
                  ·show Act.put _ (some 32) _ = _
                   simp only [Act.put, List.setIfInBounds_toArray, List.set_cons_zero, List.set_cons_succ, i64_w, i32_w]
                   rfl
                  refine zP (i := 2) (N := some 33) zB5_3 (any_of HT_.out (by kernel_rfl)) ?_
                  refine zP (i := 3) (N := some 34) zB5_4 (any_of HT_.out (by kernel_rfl)) ?_
                  refine zP (i := 4) (N := some 35) zB5_5 (any_of HT_.out (by kernel_rfl)) ?_
                  refine zP (i := 5) (N := some 36) zB5_6 (any_of HT_.out (by kernel_rfl)) ?_
                  refine zP (i := 6) (N := some 37) zB5_7 (any_of HT_.out (by kernel_rfl)) ?_
                  refine zP (i := 7) (N := some 38) zB5_8 (any_of HT_.out (by kernel_rfl)) ?_
                  refine zP (i := 8) (N := some 39) zB5_9 (any_of HT_.out (by kernel_rfl)) ?_
                  refine zP (i := 9) (N := some 40) zB5_10 (any_of HT_.out (by kernel_rfl)) ?_
                  refine zP (i := 10) (N := some 41) zB5_11 (any_of HT_.out (by kernel_rfl)) ?_
                  refine zP (i := 11) (N := some 42) zB5_12 (any_of HT_.out (by kernel_rfl)) ?_
                  refine zT1 (i := 12) (N := some 43) zB5_13 (take_ofW HT_.out HW_.out (by kernel_rfl)) hHeld ?_
                  refine zP (i := 13) (N := some 44) zB5_14 (any_of HT_.out (by kernel_rfl)) ?_
                  refine zP (i := 14) (N := some 45) zB5_15 (any_of HT_.out (by kernel_rfl)) ?_
                  refine zP (i := 15) (N := some 46) zB5_16 (any_of HT_.out (by kernel_rfl)) ?_
                  refine zP (i := 16) (N := some 47) zB5_17 (any_of HT_.out (by kernel_rfl)) ?_
                  refine zP (i := 17) (N := some 48) zB5_18 (any_of HT_.out (by kernel_rfl)) ?_
                  refine zP (i := 18) (N := some 49) zB5_19 (any_of HT_.out (by kernel_rfl)) ?_
                  refine zP (i := 19) (N := some 50) zB5_20 (any_of HT_.out (by kernel_rfl)) ?_
                  refine zU (i := 20) (N := some 51) zB5_21 (any_of HT_.out (by kernel_rfl)) ?_
                  refine zU (i := 21) (N := some 52) zB5_22 (any_of HT_.out (by kernel_rfl)) ?_
                  refine zU (i := 22) (N := some 53) zB5_23 (any_of HT_.out (by kernel_rfl)) ?_
                  refine zU (i := 23) (N := some 54) zB5_24 (any_of HT_.out (by kernel_rfl)) ?_
                  refine zU (i := 24) (N := some 55) zB5_25 (any_of HT_.out (by kernel_rfl)) ?_
                  refine zU (i := 25) (N := some 56) zB5_26 (any_of HT_.out (by kernel_rfl)) ?_
                  refine zU (i := 26) (N := some 57) zB5_27 (any_of HT_.out (by kernel_rfl)) ?_
                  refine zU (i := 27) (N := some 58) zB5_28 (any_of HT_.out (by kernel_rfl)) ?_
                  refine zU (i := 28) (N := some 59) zB5_29 (any_of HT_.out (by kernel_rfl)) ?_
                  refine zU (i := 29) (N := some 60) zB5_30 (any_of HT_.out (by kernel_rfl)) ?_
                  refine zU (i := 30) (N := some 61) zB5_31 (any_of HT_.out (by kernel_rfl)) ?_
                  refine zU (i := 31) (N := some 62) zB5_32 (any_of HT_.out (by kernel_rfl)) ?_
                  refine zP (i := 32) (N := some 63) zB5_33 (any_of HT_.out (by kernel_rfl)) ?_
                  refine zP (i := 33) (N := some 64) zB5_34 (any_of HT_.out (by kernel_rfl)) ?_
                  refine done_ (done_of HT_.out (by kernel_rfl)) ?_
                  try go_wp2
                  go_roundg k2
                  case measure => have := HK1.out; have := HK2.out; omega
                  case rel => exact ⟨(wrap64 (x26_2 + 1)), (by first | rfl | (simp; done) | (simp [*]; done)), H', ⟨by have := HK1.out; have := HK2.out; omega⟩, ⟨by (with_reducible repeat (first | apply Kd.R_alloc | apply Kd.R_drewN | apply Kd.R_drew)); exact HO_212000.out⟩, ⟨by (with_reducible repeat (first | apply Kd.R_alloc | apply Kd.R_drewN | apply Kd.R_drew)); exact HO_212001.out⟩, ⟨by (with_reducible repeat (first | refine blk_drewN ?_ _ | refine blk_drew ?_ | refine blk_alloc ?_ _)); exact BK203.out⟩, ⟨by (with_reducible repeat (first | refine blk_drewN ?_ _ | refine blk_drew ?_ | refine blk_alloc ?_ _)); exact BK211.out⟩, ⟨by repeat (first | (with_reducible first | exact HB.out | apply below_alloc | apply pw_below_drewN | apply below_drew1 | refine below_set ?_ GE203.out | refine below_set ?_ GE211.out) | exact HB.out)⟩⟩
               ·rw [if_neg c24] at H
                exact absurd H (by simp)
              ·rw [if_neg c23] at H
               exact absurd H (by simp)
             ·rw [if_neg c21] at H
              have c21b0 : decide (0 < x26_2) = false := decide_eq_false c21
              clear c21
              by_cases c36 : x19_1 > 0
              ·rw [if_pos c36] at H
               have c36b0 : decide (0 < x19_1) = true := decide_eq_true c36
               clear c36
               replace H := Option.bind_eq_some_iff.mp H
               obtain ⟨t218, A370, H⟩ := H
               replace H : ((impl_Tableau_entry.f l0_0 l0_1 (wrap64 (x19_1 - 1)) (wrap64 (t218 + x26_2))).bind fun t219 => (if (rd (rd_L1 l0_1 x19_1) x26_2) ≤ t219 then (some false) else (impl_IsTableau.l1 k2 x19_1 (rd_L1 l0_1 x19_1) l0_1 (l0_1.length : Int) x19_1 (rd_L1 l0_1 x19_1) ((rd_L1 l0_1 x19_1).length : Int) (wrap64 (x26_2 + 1)) l0_0 l0_1))) = some r := H
               have A37 := Aside0.mk A370
               clear A370
               replace H := Option.bind_eq_some_iff.mp H
               obtain ⟨t219, A380, H⟩ := H
               replace H : (if (rd (rd_L1 l0_1 x19_1) x26_2) ≤ t219 then (some false) else (impl_IsTableau.l1 k2 x19_1 (rd_L1 l0_1 x19_1) l0_1 (l0_1.length : Int) x19_1 (rd_L1 l0_1 x19_1) ((rd_L1 l0_1 x19_1).length : Int) (wrap64 (x26_2 + 1)) l0_0 l0_1)) = some r := H
               have A38 := Aside0.mk A380
               clear A380
               by_cases c39 : (rd (rd_L1 l0_1 x19_1) x26_2) ≤ t219
               ·rw [if_pos c39] at H
                have c39b0 : decide ((rd (rd_L1 l0_1 x19_1) x26_2) ≤ t219) = true := decide_eq_true c39
                clear c39
                obtain rfl := Option.some.inj H
                have p213 : 0 ≤ (x26_2 : Int) := of_decide_eq_true (by first | (with_reducible assumption) | assumption)
                have q213 : x26_2 < ((rd_L1 l0_1 x19_1).length : Int) := of_decide_eq_true (by first | (with_reducible assumption) | assumption)
                obtain ⟨ad213, e213, hx213_0⟩ := Kd.at_int HR212_0.out x26_2 p213 q213
                cases e213
                replace hx213_0 := (HB.out.cell (World.block_lt_of_cell? w _ hx213_0)).trans hx213_0
                replace p213 := eq_true p213
                replace q213 := eq_true q213
                try go_wp2
                have n0_ := Aside0.mk (Kd.R_drew HO_212000.out)
                have n1_ := Aside0.mk (Kd.R_drew HO_212001.out)
                have n2_ := Aside0.mk (blk_drew BK203.out)
                have n3_ := Aside0.mk (blk_drew BK211.out)
                have n4_ := Aside0.mk (below_drew1 HB.out)
                clear HO_212000
                clear HO_212001
                clear BK203
                clear BK211
                clear HB
                have HO_212000 := n0_
                have HO_212001 := n1_
                have BK203 := n2_
                have BK211 := n3_
                have HB := n4_
                clear n0_ n1_ n2_ n3_ n4_
                refine start_ (n := 34) (S := fun w' => w'.cell? ⟨gb203, 0, none⟩ = some (.slice A0_0 l0_0.length c0_0) ∧ w'.cell? ⟨gb203, 1, none⟩ = some (.slice (some ad212) l0_1.length c0_1)) (ds := []) zB5_0 (by kernel_rfl) rfl rfl ⟨(blk_cell BK203.out 0).trans rfl, (blk_cell BK203.out 1).trans rfl⟩ (fun hHeld => ?_); refine with_tabW impl_IsTableau.tab10 impl_IsTableau.bits10 (fun HT_ HW_ => ?_)
                generalize wr.drew = w40 at HO_212000 HO_212001 BK203 BK211 HB hHeld ⊢
                refine zP (i := 0) (N := some 31) zB5_1 (any_of HT_.out (by kernel_rfl)) ?_
                refine one_ (i := 1) (N := some 32) zB5_2 rfl rfl (one_of HT_.out (by kernel_rfl)) (by decide) (fun K hK => ?_)
                refine zC Try.func54 #[.int .i64 (rd (rd_L1 l0_1 x19_1) x26_2), .int .i64 1, .int .i64 9] ?_
                with_reducible refine (impl_within.calls (rd (rd_L1 l0_1 x19_1) x26_2) 1 9 true _ A19.out).mono ?_
                rintro e w' ⟨rfl, ⟨nd, rfl⟩⟩
                refine ⟨_, rfl, ?_⟩
                refine hK.out _ _ ⟨(blk_cell BK203.out 0).trans rfl, (blk_cell BK203.out 1).trans rfl⟩ (fun hHeld => ?_)
                clear hK K
                refine norm_ (a' := ?_) ?_ ?_
                rotate_left
                ·show Act.put _ (some 32) _ = _
                 simp only [Act.put, List.setIfInBounds_toArray, List.set_cons_zero, List.set_cons_succ, i64_w, i32_w]
                 rfl
                refine zP (i := 2) (N := some 33) zB5_3 (any_of HT_.out (by kernel_rfl)) ?_
                refine zP (i := 3) (N := some 34) zB5_4 (any_of HT_.out (by kernel_rfl)) ?_
                refine zP (i := 4) (N := some 35) zB5_5 (any_of HT_.out (by kernel_rfl)) ?_
                refine zP (i := 5) (N := some 36) zB5_6 (any_of HT_.out (by kernel_rfl)) ?_
                refine zP (i := 6) (N := some 37) zB5_7 (any_of HT_.out (by kernel_rfl)) ?_
                refine zU (i := 7) (N := some 38) zB5_8 (any_of HT_.out (by kernel_rfl)) ?_
                refine zU (i := 8) (N := some 39) zB5_9 (any_of HT_.out (by kernel_rfl)) ?_
                refine zU (i := 9) (N := some 40) zB5_10 (any_of HT_.out (by kernel_rfl)) ?_
                refine zU (i := 10) (N := some 41) zB5_11 (any_of HT_.out (by kernel_rfl)) ?_
                refine zU (i := 11) (N := some 42) zB5_12 (any_of HT_.out (by kernel_rfl)) ?_
                refine zU (i := 12) (N := some 43) zB5_13 (any_of HT_.out (by kernel_rfl)) ?_
                refine zU (i := 13) (N := some 44) zB5_14 (any_of HT_.out (by kernel_rfl)) ?_
                refine zP (i := 14) (N := some 45) zB5_15 (any_of HT_.out (by kernel_rfl)) ?_
                refine zP (i := 15) (N := some 46) zB5_16 (any_of HT_.out (by kernel_rfl)) ?_
                refine zP (i := 16) (N := some 47) zB5_17 (any_of HT_.out (by kernel_rfl)) ?_
                refine zP (i := 17) (N := some 48) zB5_18 (any_of HT_.out (by kernel_rfl)) ?_
                refine zP (i := 18) (N := some 49) zB5_19 (any_of HT_.out (by kernel_rfl)) ?_
                refine zP (i := 19) (N := some 50) zB5_20 (any_of HT_.out (by kernel_rfl)) ?_
                refine zP (i := 20) (N := some 51) zB5_21 (any_of HT_.out (by kernel_rfl)) ?_
                refine zP (i := 22) (N := some 53) zB5_35 (any_of HT_.out (by kernel_rfl)) ?_
                refine zP (i := 23) (N := some 54) zB5_36 (any_of HT_.out (by kernel_rfl)) ?_
                refine zP (i := 24) (N := some 55) zB5_37 (any_of HT_.out (by kernel_rfl)) ?_
                refine zP (i := 26) (N := some 57) zB5_38 (any_of HT_.out (by kernel_rfl)) ?_
                refine zP (i := 28) (N := some 59) zB5_39 (any_of HT_.out (by kernel_rfl)) ?_
                refine zT2 (i := 21) (N := some 52) zB5_40 (take_ofW HT_.out HW_.out (by kernel_rfl)) hHeld ?_
                refine zT2 (i := 25) (N := some 56) zB5_41 (take_ofW HT_.out HW_.out (by kernel_rfl)) hHeld ?_
                refine one_ (i := 27) (N := some 58) zB5_29 rfl rfl (one_of HT_.out (by kernel_rfl)) (by decide) (fun K hK => ?_)
                refine zC Try.func35 #[.slice A0_0 l0_0.length c0_0, .int .i64 x19_1] ?_
                with_reducible refine (impl_at.calls _ _ l0_0 x19_1 t218 _ ?side1 ?side2 A37.out).mono ?_
                (case side1 => repeat (first | exact (Kd.C_below HR0_0.out (by repeat (first | (with_reducible first | exact HB.out | apply below_alloc | apply pw_below_drewN | apply below_drew1 | refine below_set ?_ GE203.out | refine below_set ?_ GE211.out) | exact HB.out))) | (with_reducible refine Kd.C_alloc ?_ _) | (with_reducible refine Kd.C_drewN ?_ _) | (with_reducible refine Kd.C_drew ?_)))
                (case side2 => exact HC0_0.out)
                rintro e w' ⟨rfl, ⟨nd, rfl⟩⟩
                refine ⟨_, rfl, ?_⟩
                refine hK.out _ _ ⟨(blk_cell BK203.out 0).trans rfl, (blk_cell BK203.out 1).trans rfl⟩ (fun hHeld => ?_)
                clear hK K
                refine norm_ (a' := ?_) ?_ ?_
                rotate_left
                ·show Act.put _ (some 58) _ = _
                 simp only [Act.put, List.setIfInBounds_toArray, List.set_cons_zero, List.set_cons_succ, i64_w, i32_w]
                 rfl
                refine zP (i := 29) (N := some 60) zB5_30 (any_of HT_.out (by kernel_rfl)) ?_
                refine one_ (i := 30) (N := some 61) zB5_31 rfl rfl (one_of HT_.out (by kernel_rfl)) (by decide) (fun K hK => ?_)
                refine zC Try.func66 #[.agg #[.slice A0_0 l0_0.length c0_0, .slice (some ad212) l0_1.length c0_1], .int .i64 (wrap64 (x19_1 - 1)), .int .i64 (wrap64 (t218 + x26_2))] ?_
                with_reducible refine (impl_Tableau_entry.calls _ _ l0_0 _ _ l0_1 (wrap64 (x19_1 - 1)) (wrap64 (t218 + x26_2)) t219 _ ?side1 ?side2 ?side3 ?side4 A38.out).mono ?_
                (case side1 => repeat (first | exact (Kd.C_below HR0_0.out (by repeat (first | (with_reducible first | exact HB.out | apply below_alloc | apply pw_below_drewN | apply below_drew1 | refine below_set ?_ GE203.out | refine below_set ?_ GE211.out) | exact HB.out))) | (with_reducible refine Kd.C_alloc ?_ _) | (with_reducible refine Kd.C_drewN ?_ _) | (with_reducible refine Kd.C_drew ?_)))
                (case side2 => exact HC0_0.out)
                (case side3 => repeat (first | exact (Kd.C_below HR0_1.out (by repeat (first | (with_reducible first | exact HB.out | apply below_alloc | apply pw_below_drewN | apply below_drew1 | refine below_set ?_ GE203.out | refine below_set ?_ GE211.out) | exact HB.out))) | (with_reducible refine Kd.C_alloc ?_ _) | (with_reducible refine Kd.C_drewN ?_ _) | (with_reducible refine Kd.C_drew ?_)))
                (case side4 => exact HC0_1.out)
                rintro e w41 ⟨rfl, hb⟩
                refine ⟨_, rfl, ?_⟩
                have n0_ := Aside0.mk (Kd.R_below (by (with_reducible repeat (first | apply Kd.R_alloc | apply Kd.R_drewN | apply Kd.R_drew)); exact HO_212000.out) hb)
                have n1_ := Aside0.mk (Kd.R_below (by (with_reducible repeat (first | apply Kd.R_alloc | apply Kd.R_drewN | apply Kd.R_drew)); exact HO_212001.out) hb)
                have n2_ := Aside0.mk (blk_below (g := gb203) (o := .cells #[.slice A0_0 l0_0.length c0_0, .slice (some ad212) l0_1.length c0_1] 26 (0, 0)) (by (with_reducible repeat (first | refine blk_drewN ?_ _ | refine blk_drew ?_ | refine blk_alloc ?_ _)); exact BK203.out) hb)
                have n3_ := Aside0.mk (blk_below (g := gb211) (o := .cells #[.slice Ao8 t204.length co8, .slice Ao11 t207.length co11] 62 (0, 0)) (by (with_reducible repeat (first | refine blk_drewN ?_ _ | refine blk_drew ?_ | refine blk_alloc ?_ _)); exact BK211.out) hb)
                have n4_ := Aside0.mk (below_step (by repeat (first | (with_reducible first | exact HB.out | apply below_alloc | apply pw_below_drewN | apply below_drew1 | refine below_set ?_ GE203.out | refine below_set ?_ GE211.out) | exact HB.out)) hb)
                clear HO_212000
                clear HO_212001
                clear BK203
                clear BK211
                clear HB
                have HO_212000 := n0_
                have HO_212001 := n1_
                have BK203 := n2_
                have BK211 := n3_
                have HB := n4_
                clear n0_ n1_ n2_ n3_ n4_
                (try clear hb)
                (try clear hb2)
                (try clear hk)
                (try clear hi)
                refine hK.out _ _ ⟨(blk_cell BK203.out 0).trans rfl, (blk_cell BK203.out 1).trans rfl⟩ (fun hHeld => ?_)
                clear hK K
                refine norm_ (a' := ?_) ?_ ?_
                rotate_left
                ·show Act.put _ (some 61) _ = _
                 simp only [Act.put, List.setIfInBounds_toArray, List.set_cons_zero, List.set_cons_succ, i64_w, i32_w]
                 rfl
                refine zP (i := 31) (N := some 62) zB5_32 (any_of HT_.out (by kernel_rfl)) ?_
                refine zP (i := 32) (N := some 63) zB5_33 (any_of HT_.out (by kernel_rfl)) ?_
                refine zP (i := 33) (N := some 64) zB5_34 (any_of HT_.out (by kernel_rfl)) ?_
                refine done_ (done_of HT_.out (by kernel_rfl)) ?_
                try go_wp2
                go_ret
                exact ⟨by first | rfl | (simp [errW_none, errW_some] <;> rfl) | (simp [*, errW_none, errW_some] <;> rfl), by repeat (first | (with_reducible first | exact HB.out | apply below_alloc | apply pw_below_drewN | apply below_drew1 | refine below_set ?_ GE203.out | refine below_set ?_ GE211.out) | exact HB.out)⟩
               ·rw [if_neg c39] at H
                have c39b0 : decide ((rd (rd_L1 l0_1 x19_1) x26_2) ≤ t219) = false := decide_eq_false c39
                clear c39
                have H' := Aside0.mk H
                clear H
                have p213 : 0 ≤ (x26_2 : Int) := of_decide_eq_true (by first | (with_reducible assumption) | assumption)
                have q213 : x26_2 < ((rd_L1 l0_1 x19_1).length : Int) := of_decide_eq_true (by first | (with_reducible assumption) | assumption)
                obtain ⟨ad213, e213, hx213_0⟩ := Kd.at_int HR212_0.out x26_2 p213 q213
                cases e213
                replace hx213_0 := (HB.out.cell (World.block_lt_of_cell? w _ hx213_0)).trans hx213_0
                replace p213 := eq_true p213
                replace q213 := eq_true q213
                try go_wp2
                have n0_ := Aside0.mk (Kd.R_drew HO_212000.out)
                have n1_ := Aside0.mk (Kd.R_drew HO_212001.out)
                have n2_ := Aside0.mk (blk_drew BK203.out)
                have n3_ := Aside0.mk (blk_drew BK211.out)
                have n4_ := Aside0.mk (below_drew1 HB.out)
                clear HO_212000
                clear HO_212001
                clear BK203
                clear BK211
                clear HB
                have HO_212000 := n0_
                have HO_212001 := n1_
                have BK203 := n2_
                have BK211 := n3_
                have HB := n4_
                clear n0_ n1_ n2_ n3_ n4_
                refine start_ (n := 34) (S := fun w' => w'.cell? ⟨gb203, 0, none⟩ = some (.slice A0_0 l0_0.length c0_0) ∧ w'.cell? ⟨gb203, 1, none⟩ = some (.slice (some ad212) l0_1.length c0_1)) (ds := []) zB5_0 (by kernel_rfl) rfl rfl ⟨(blk_cell BK203.out 0).trans rfl, (blk_cell BK203.out 1).trans rfl⟩ (fun hHeld => ?_); refine with_tabW impl_IsTableau.tab10 impl_IsTableau.bits10 (fun HT_ HW_ => ?_)
                generalize wr.drew = w42 at HO_212000 HO_212001 BK203 BK211 HB hHeld ⊢
                refine zP (i := 0) (N := some 31) zB5_1 (any_of HT_.out (by kernel_rfl)) ?_
                refine one_ (i := 1) (N := some 32) zB5_2 rfl rfl (one_of HT_.out (by kernel_rfl)) (by decide) (fun K hK => ?_)
                refine zC Try.func54 #[.int .i64 (rd (rd_L1 l0_1 x19_1) x26_2), .int .i64 1, .int .i64 9] ?_
                with_reducible refine (impl_within.calls (rd (rd_L1 l0_1 x19_1) x26_2) 1 9 true _ A19.out).mono ?_
                rintro e w' ⟨rfl, ⟨nd, rfl⟩⟩
                refine ⟨_, rfl, ?_⟩
                refine hK.out _ _ ⟨(blk_cell BK203.out 0).trans rfl, (blk_cell BK203.out 1).trans rfl⟩ (fun hHeld => ?_)
                clear hK K
                refine norm_ (a' := ?_) ?_ ?_
                rotate_left
                ·show Act.put _ (some 32) _ = _
                 simp only [Act.put, List.setIfInBounds_toArray, List.set_cons_zero, List.set_cons_succ, i64_w, i32_w]
                 rfl
                refine zP (i := 2) (N := some 33) zB5_3 (any_of HT_.out (by kernel_rfl)) ?_
                refine zP (i := 3) (N := some 34) zB5_4 (any_of HT_.out (by kernel_rfl)) ?_
                refine zP (i := 4) (N := some 35) zB5_5 (any_of HT_.out (by kernel_rfl)) ?_
                refine zP (i := 5) (N := some 36) zB5_6 (any_of HT_.out (by kernel_rfl)) ?_
                refine zP (i := 6) (N := some 37) zB5_7 (any_of HT_.out (by kernel_rfl)) ?_
                refine zU (i := 7) (N := some 38) zB5_8 (any_of HT_.out (by kernel_rfl)) ?_
                refine zU (i := 8) (N := some 39) zB5_9 (any_of HT_.out (by kernel_rfl)) ?_
                refine zU (i := 9) (N := some 40) zB5_10 (any_of HT_.out (by kernel_rfl)) ?_
                refine zU (i := 10) (N := some 41) zB5_11 (any_of HT_.out (by kernel_rfl)) ?_
                refine zU (i := 11) (N := some 42) zB5_12 (any_of HT_.out (by kernel_rfl)) ?_
                refine zU (i := 12) (N := some 43) zB5_13 (any_of HT_.out (by kernel_rfl)) ?_
                refine zU (i := 13) (N := some 44) zB5_14 (any_of HT_.out (by kernel_rfl)) ?_
                refine zP (i := 14) (N := some 45) zB5_15 (any_of HT_.out (by kernel_rfl)) ?_
                refine zP (i := 15) (N := some 46) zB5_16 (any_of HT_.out (by kernel_rfl)) ?_
                refine zP (i := 16) (N := some 47) zB5_17 (any_of HT_.out (by kernel_rfl)) ?_
                refine zP (i := 17) (N := some 48) zB5_18 (any_of HT_.out (by kernel_rfl)) ?_
                refine zP (i := 18) (N := some 49) zB5_19 (any_of HT_.out (by kernel_rfl)) ?_
                refine zP (i := 19) (N := some 50) zB5_20 (any_of HT_.out (by kernel_rfl)) ?_
                refine zP (i := 20) (N := some 51) zB5_21 (any_of HT_.out (by kernel_rfl)) ?_
                refine zP (i := 22) (N := some 53) zB5_35 (any_of HT_.out (by kernel_rfl)) ?_
                refine zP (i := 23) (N := some 54) zB5_36 (any_of HT_.out (by kernel_rfl)) ?_
                refine zP (i := 24) (N := some 55) zB5_37 (any_of HT_.out (by kernel_rfl)) ?_
                refine zP (i := 26) (N := some 57) zB5_38 (any_of HT_.out (by kernel_rfl)) ?_
                refine zP (i := 28) (N := some 59) zB5_39 (any_of HT_.out (by kernel_rfl)) ?_
                refine zT2 (i := 21) (N := some 52) zB5_40 (take_ofW HT_.out HW_.out (by kernel_rfl)) hHeld ?_
                refine zT2 (i := 25) (N := some 56) zB5_41 (take_ofW HT_.out HW_.out (by kernel_rfl)) hHeld ?_
                refine one_ (i := 27) (N := some 58) zB5_29 rfl rfl (one_of HT_.out (by kernel_rfl)) (by decide) (fun K hK => ?_)
                refine zC Try.func35 #[.slice A0_0 l0_0.length c0_0, .int .i64 x19_1] ?_
                with_reducible refine (impl_at.calls _ _ l0_0 x19_1 t218 _ ?side1 ?side2 A37.out).mono ?_
                (case side1 => repeat (first | exact (Kd.C_below HR0_0.out (by repeat (first | (with_reducible first | exact HB.out | apply below_alloc | apply pw_below_drewN | apply below_drew1 | refine below_set ?_ GE203.out | refine below_set ?_ GE211.out) | exact HB.out))) | (with_reducible refine Kd.C_alloc ?_ _) | (with_reducible refine Kd.C_drewN ?_ _) | (with_reducible refine Kd.C_drew ?_)))
                (case side2 => exact HC0_0.out)
                rintro e w' ⟨rfl, ⟨nd, rfl⟩⟩
                refine ⟨_, rfl, ?_⟩
                refine hK.out _ _ ⟨(blk_cell BK203.out 0).trans rfl, (blk_cell BK203.out 1).trans rfl⟩ (fun hHeld => ?_)
                clear hK K
                refine norm_ (a' := ?_) ?_ ?_
                rotate_left
                ·show Act.put _ (some 58) _ = _
                 simp only [Act.put, List.setIfInBounds_toArray, List.set_cons_zero, List.set_cons_succ, i64_w, i32_w]
                 rfl
                refine zP (i := 29) (N := some 60) zB5_30 (any_of HT_.out (by kernel_rfl)) ?_
                refine one_ (i := 30) (N := some 61) zB5_31 rfl rfl (one_of HT_.out (by kernel_rfl)) (by decide) (fun K hK => ?_)
                refine zC Try.func66 #[.agg #[.slice A0_0 l0_0.length c0_0, .slice (some ad212) l0_1.length c0_1], .int .i64 (wrap64 (x19_1 - 1)), .int .i64 (wrap64 (t218 + x26_2))] ?_
                with_reducible refine (impl_Tableau_entry.calls _ _ l0_0 _ _ l0_1 (wrap64 (x19_1 - 1)) (wrap64 (t218 + x26_2)) t219 _ ?side1 ?side2 ?side3 ?side4 A38.out).mono ?_
                (case side1 => repeat (first | exact (Kd.C_below HR0_0.out (by repeat (first | (with_reducible first | exact HB.out | apply below_alloc | apply pw_below_drewN | apply below_drew1 | refine below_set ?_ GE203.out | refine below_set ?_ GE211.out) | exact HB.out))) | (with_reducible refine Kd.C_alloc ?_ _) | (with_reducible refine Kd.C_drewN ?_ _) | (with_reducible refine Kd.C_drew ?_)))
                (case side2 => exact HC0_0.out)
                (case side3 => repeat (first | exact (Kd.C_below HR0_1.out (by repeat (first | (with_reducible first | exact HB.out | apply below_alloc | apply pw_below_drewN | apply below_drew1 | refine below_set ?_ GE203.out | refine below_set ?_ GE211.out) | exact HB.out))) | (with_reducible refine Kd.C_alloc ?_ _) | (with_reducible refine Kd.C_drewN ?_ _) | (with_reducible refine Kd.C_drew ?_)))
                (case side4 => exact HC0_1.out)
                rintro e w43 ⟨rfl, hb⟩
                refine ⟨_, rfl, ?_⟩
                have n0_ := Aside0.mk (Kd.R_below (by (with_reducible repeat (first | apply Kd.R_alloc | apply Kd.R_drewN | apply Kd.R_drew)); exact HO_212000.out) hb)
                have n1_ := Aside0.mk (Kd.R_below (by (with_reducible repeat (first | apply Kd.R_alloc | apply Kd.R_drewN | apply Kd.R_drew)); exact HO_212001.out) hb)
                have n2_ := Aside0.mk (blk_below (g := gb203) (o := .cells #[.slice A0_0 l0_0.length c0_0, .slice (some ad212) l0_1.length c0_1] 26 (0, 0)) (by (with_reducible repeat (first | refine blk_drewN ?_ _ | refine blk_drew ?_ | refine blk_alloc ?_ _)); exact BK203.out) hb)
                have n3_ := Aside0.mk (blk_below (g := gb211) (o := .cells #[.slice Ao8 t204.length co8, .slice Ao11 t207.length co11] 62 (0, 0)) (by (with_reducible repeat (first | refine blk_drewN ?_ _ | refine blk_drew ?_ | refine blk_alloc ?_ _)); exact BK211.out) hb)
                have n4_ := Aside0.mk (below_step (by repeat (first | (with_reducible first | exact HB.out | apply below_alloc | apply pw_below_drewN | apply below_drew1 | refine below_set ?_ GE203.out | refine below_set ?_ GE211.out) | exact HB.out)) hb)
                clear HO_212000
                clear HO_212001
                clear BK203
                clear BK211
                clear HB
                have HO_212000 := n0_
                have HO_212001 := n1_
                have BK203 := n2_
                have BK211 := n3_
                have HB := n4_
                clear n0_ n1_ n2_ n3_ n4_
                (try clear hb)
                (try clear hb2)
                (try clear hk)
                (try clear hi)
                refine hK.out _ _ ⟨(blk_cell BK203.out 0).trans rfl, (blk_cell BK203.out 1).trans rfl⟩ (fun hHeld => ?_)
                clear hK K
                refine norm_ (a' := ?_) ?_ ?_
                rotate_left
                ·show Act.put _ (some 61) _ = _
                 simp only [Act.put, List.setIfInBounds_toArray, List.set_cons_zero, List.set_cons_succ, i64_w, i32_w]
                 rfl
                refine zP (i := 31) (N := some 62) zB5_32 (any_of HT_.out (by kernel_rfl)) ?_
                refine zP (i := 32) (N := some 63) zB5_33 (any_of HT_.out (by kernel_rfl)) ?_
                refine zP (i := 33) (N := some 64) zB5_34 (any_of HT_.out (by kernel_rfl)) ?_
                refine done_ (done_of HT_.out (by kernel_rfl)) ?_
                try go_wp2
                go_roundg k2
                case measure => have := HK1.out; have := HK2.out; omega
                case rel => exact ⟨(wrap64 (x26_2 + 1)), (by first | rfl | (simp; done) | (simp [*]; done)), H', ⟨by have := HK1.out; have := HK2.out; omega⟩, ⟨by (with_reducible repeat (first | apply Kd.R_alloc | apply Kd.R_drewN | apply Kd.R_drew)); exact HO_212000.out⟩, ⟨by (with_reducible repeat (first | apply Kd.R_alloc | apply Kd.R_drewN | apply Kd.R_drew)); exact HO_212001.out⟩, ⟨by (with_reducible repeat (first | refine blk_drewN ?_ _ | refine blk_drew ?_ | refine blk_alloc ?_ _)); exact BK203.out⟩, ⟨by (with_reducible repeat (first | refine blk_drewN ?_ _ | refine blk_drew ?_ | refine blk_alloc ?_ _)); exact BK211.out⟩, ⟨by repeat (first | (with_reducible first | exact HB.out | apply below_alloc | apply pw_below_drewN | apply below_drew1 | refine below_set ?_ GE203.out | refine below_set ?_ GE211.out) | exact HB.out)⟩⟩
              ·rw [if_neg c36] at H
               have c36b0 : decide (0 < x19_1) = false := decide_eq_false c36
               clear c36
               have H' := Aside0.mk H
               clear H
               have p213 : 0 ≤ (x26_2 : Int) := of_decide_eq_true (by first | (with_reducible assumption) | assumption)
               have q213 : x26_2 < ((rd_L1 l0_1 x19_1).length : Int) := of_decide_eq_true (by first | (with_reducible assumption) | assumption)
               obtain ⟨ad213, e213, hx213_0⟩ := Kd.at_int HR212_0.out x26_2 p213 q213
               cases e213
               replace hx213_0 := (HB.out.cell (World.block_lt_of_cell? w _ hx213_0)).trans hx213_0
               replace p213 := eq_true p213
               replace q213 := eq_true q213
               try go_wp2
               have n0_ := Aside0.mk (Kd.R_drew HO_212000.out)
               have n1_ := Aside0.mk (Kd.R_drew HO_212001.out)
               have n2_ := Aside0.mk (blk_drew BK203.out)
               have n3_ := Aside0.mk (blk_drew BK211.out)
               have n4_ := Aside0.mk (below_drew1 HB.out)
               clear HO_212000
               clear HO_212001
               clear BK203
               clear BK211
               clear HB
               have HO_212000 := n0_
               have HO_212001 := n1_
               have BK203 := n2_
               have BK211 := n3_
               have HB := n4_
               clear n0_ n1_ n2_ n3_ n4_
               refine start_ (n := 34) (S := fun w' => True) (ds := []) zB5_0 (by kernel_rfl) rfl rfl trivial (fun hHeld => ?_); refine with_tabW impl_IsTableau.tab10 impl_IsTableau.bits10 (fun HT_ HW_ => ?_)
               generalize wr.drew = w44 at HO_212000 HO_212001 BK203 BK211 HB hHeld ⊢
               refine zP (i := 0) (N := some 31) zB5_1 (any_of HT_.out (by kernel_rfl)) ?_
               refine one_ (i := 1) (N := some 32) zB5_2 rfl rfl (one_of HT_.out (by kernel_rfl)) (by decide) (fun K hK => ?_)
               refine zC Try.func54 #[.int .i64 (rd (rd_L1 l0_1 x19_1) x26_2), .int .i64 1, .int .i64 9] ?_
               with_reducible refine (impl_within.calls (rd (rd_L1 l0_1 x19_1) x26_2) 1 9 true _ A19.out).mono ?_
               rintro e w' ⟨rfl, ⟨nd, rfl⟩⟩
               refine ⟨_, rfl, ?_⟩
               refine hK.out _ _ trivial (fun hHeld => ?_)
               clear hK K
               refine norm_ (a' := ?_) ?_ ?_
               rotate_left
               ·show Act.put _ (some 32) _ = _
                simp only [Act.put, List.setIfInBounds_toArray, List.set_cons_zero, List.set_cons_succ, i64_w, i32_w]
                rfl
               refine zP (i := 2) (N := some 33) zB5_3 (any_of HT_.out (by kernel_rfl)) ?_
               refine zP (i := 3) (N := some 34) zB5_4 (any_of HT_.out (by kernel_rfl)) ?_
               refine zP (i := 4) (N := some 35) zB5_5 (any_of HT_.out (by kernel_rfl)) ?_
               refine zP (i := 5) (N := some 36) zB5_6 (any_of HT_.out (by kernel_rfl)) ?_
               refine zP (i := 6) (N := some 37) zB5_7 (any_of HT_.out (by kernel_rfl)) ?_
               refine zU (i := 7) (N := some 38) zB5_8 (any_of HT_.out (by kernel_rfl)) ?_
               refine zU (i := 8) (N := some 39) zB5_9 (any_of HT_.out (by kernel_rfl)) ?_
               refine zU (i := 9) (N := some 40) zB5_10 (any_of HT_.out (by kernel_rfl)) ?_
               refine zU (i := 10) (N := some 41) zB5_11 (any_of HT_.out (by kernel_rfl)) ?_
               refine zU (i := 11) (N := some 42) zB5_12 (any_of HT_.out (by kernel_rfl)) ?_
               refine zU (i := 12) (N := some 43) zB5_13 (any_of HT_.out (by kernel_rfl)) ?_
               refine zU (i := 13) (N := some 44) zB5_14 (any_of HT_.out (by kernel_rfl)) ?_
               refine zP (i := 14) (N := some 45) zB5_15 (any_of HT_.out (by kernel_rfl)) ?_
               refine zP (i := 15) (N := some 46) zB5_16 (any_of HT_.out (by kernel_rfl)) ?_
               refine zP (i := 16) (N := some 47) zB5_17 (any_of HT_.out (by kernel_rfl)) ?_
               refine zP (i := 17) (N := some 48) zB5_18 (any_of HT_.out (by kernel_rfl)) ?_
               refine zP (i := 18) (N := some 49) zB5_19 (any_of HT_.out (by kernel_rfl)) ?_
               refine zP (i := 19) (N := some 50) zB5_20 (any_of HT_.out (by kernel_rfl)) ?_
               refine zU (i := 20) (N := some 51) zB5_21 (any_of HT_.out (by kernel_rfl)) ?_
               refine zU (i := 21) (N := some 52) zB5_22 (any_of HT_.out (by kernel_rfl)) ?_
               refine zU (i := 22) (N := some 53) zB5_23 (any_of HT_.out (by kernel_rfl)) ?_
               refine zU (i := 23) (N := some 54) zB5_24 (any_of HT_.out (by kernel_rfl)) ?_
               refine zU (i := 24) (N := some 55) zB5_25 (any_of HT_.out (by kernel_rfl)) ?_
               refine zU (i := 25) (N := some 56) zB5_26 (any_of HT_.out (by kernel_rfl)) ?_
               refine zU (i := 26) (N := some 57) zB5_27 (any_of HT_.out (by kernel_rfl)) ?_
               refine zU (i := 27) (N := some 58) zB5_28 (any_of HT_.out (by kernel_rfl)) ?_
               refine zU (i := 28) (N := some 59) zB5_29 (any_of HT_.out (by kernel_rfl)) ?_
               refine zU (i := 29) (N := some 60) zB5_30 (any_of HT_.out (by kernel_rfl)) ?_
               refine zU (i := 30) (N := some 61) zB5_31 (any_of HT_.out (by kernel_rfl)) ?_
               refine zU (i := 31) (N := some 62) zB5_32 (any_of HT_.out (by kernel_rfl)) ?_
               refine zP (i := 32) (N := some 63) zB5_33 (any_of HT_.out (by kernel_rfl)) ?_
               refine zP (i := 33) (N := some 64) zB5_34 (any_of HT_.out (by kernel_rfl)) ?_
               refine done_ (done_of HT_.out (by kernel_rfl)) ?_
               try go_wp2
               go_roundg k2
               case measure => have := HK1.out; have := HK2.out; omega
               case rel => exact ⟨(wrap64 (x26_2 + 1)), (by first | rfl | (simp; done) | (simp [*]; done)), H', ⟨by have := HK1.out; have := HK2.out; omega⟩, ⟨by (with_reducible repeat (first | apply Kd.R_alloc | apply Kd.R_drewN | apply Kd.R_drew)); exact HO_212000.out⟩, ⟨by (with_reducible repeat (first | apply Kd.R_alloc | apply Kd.R_drewN | apply Kd.R_drew)); exact HO_212001.out⟩, ⟨by (with_reducible repeat (first | refine blk_drewN ?_ _ | refine blk_drew ?_ | refine blk_alloc ?_ _)); exact BK203.out⟩, ⟨by (with_reducible repeat (first | refine blk_drewN ?_ _ | refine blk_drew ?_ | refine blk_alloc ?_ _)); exact BK211.out⟩, ⟨by repeat (first | (with_reducible first | exact HB.out | apply below_alloc | apply pw_below_drewN | apply below_drew1 | refine below_set ?_ GE203.out | refine below_set ?_ GE211.out) | exact HB.out)⟩⟩
            ·replace c20 := Bool.eq_false_iff.mpr c20
             subst c20
             have H1 : (some false) = some r := by rw [if_neg (show ¬ (false = true) by decide)] at H; exact H
             clear H
             have H := H1
             clear H1
             obtain rfl := Option.some.inj H
             have p213 : 0 ≤ (x26_2 : Int) := of_decide_eq_true (by first | (with_reducible assumption) | assumption)
             have q213 : x26_2 < ((rd_L1 l0_1 x19_1).length : Int) := of_decide_eq_true (by first | (with_reducible assumption) | assumption)
             obtain ⟨ad213, e213, hx213_0⟩ := Kd.at_int HR212_0.out x26_2 p213 q213
             cases e213
             replace hx213_0 := (HB.out.cell (World.block_lt_of_cell? w _ hx213_0)).trans hx213_0
             replace p213 := eq_true p213
             replace q213 := eq_true q213
             try go_wp2
             have n0_ := Aside0.mk (Kd.R_drew HO_212000.out)
             have n1_ := Aside0.mk (Kd.R_drew HO_212001.out)
             have n2_ := Aside0.mk (blk_drew BK203.out)
             have n3_ := Aside0.mk (blk_drew BK211.out)
             have n4_ := Aside0.mk (below_drew1 HB.out)
             clear HO_212000
             clear HO_212001
             clear BK203
             clear BK211
             clear HB
             have HO_212000 := n0_
             have HO_212001 := n1_
             have BK203 := n2_
             have BK211 := n3_
             have HB := n4_
             clear n0_ n1_ n2_ n3_ n4_
             refine start_ (n := 34) (S := fun w' => True) (ds := []) zB5_0 (by kernel_rfl) rfl rfl trivial (fun hHeld => ?_); refine with_tabW impl_IsTableau.tab10 impl_IsTableau.bits10 (fun HT_ HW_ => ?_)
             generalize wr.drew = w45 at HO_212000 HO_212001 BK203 BK211 HB hHeld ⊢
             refine zP (i := 0) (N := some 31) zB5_1 (any_of HT_.out (by kernel_rfl)) ?_
             refine one_ (i := 1) (N := some 32) zB5_2 rfl rfl (one_of HT_.out (by kernel_rfl)) (by decide) (fun K hK => ?_)
             refine zC Try.func54 #[.int .i64 (rd (rd_L1 l0_1 x19_1) x26_2), .int .i64 1, .int .i64 9] ?_
             with_reducible refine (impl_within.calls (rd (rd_L1 l0_1 x19_1) x26_2) 1 9 false _ A19.out).mono ?_
             rintro e w' ⟨rfl, ⟨nd, rfl⟩⟩
             refine ⟨_, rfl, ?_⟩
             refine hK.out _ _ trivial (fun hHeld => ?_)
             clear hK K
             refine norm_ (a' := ?_) ?_ ?_
             rotate_left
             ·show Act.put _ (some 32) _ = _
              simp only [Act.put, List.setIfInBounds_toArray, List.set_cons_zero, List.set_cons_succ, i64_w, i32_w]
              rfl
             refine zP (i := 2) (N := some 33) zB5_3 (any_of HT_.out (by kernel_rfl)) ?_
             refine zP (i := 3) (N := some 34) zB5_4 (any_of HT_.out (by kernel_rfl)) ?_
             refine zU (i := 4) (N := some 35) zB5_5 (any_of HT_.out (by kernel_rfl)) ?_
             refine zU (i := 5) (N := some 36) zB5_6 (any_of HT_.out (by kernel_rfl)) ?_
             refine zU (i := 6) (N := some 37) zB5_7 (any_of HT_.out (by kernel_rfl)) ?_
             refine zU (i := 7) (N := some 38) zB5_8 (any_of HT_.out (by kernel_rfl)) ?_
             refine zU (i := 8) (N := some 39) zB5_9 (any_of HT_.out (by kernel_rfl)) ?_
             refine zU (i := 9) (N := some 40) zB5_10 (any_of HT_.out (by kernel_rfl)) ?_
             refine zU (i := 10) (N := some 41) zB5_11 (any_of HT_.out (by kernel_rfl)) ?_
             refine zU (i := 11) (N := some 42) zB5_12 (any_of HT_.out (by kernel_rfl)) ?_
             refine zU (i := 12) (N := some 43) zB5_13 (any_of HT_.out (by kernel_rfl)) ?_
             refine zU (i := 13) (N := some 44) zB5_14 (any_of HT_.out (by kernel_rfl)) ?_
             refine zU (i := 14) (N := some 45) zB5_15 (any_of HT_.out (by kernel_rfl)) ?_
             refine zP (i := 15) (N := some 46) zB5_16 (any_of HT_.out (by kernel_rfl)) ?_
             refine zP (i := 16) (N := some 47) zB5_17 (any_of HT_.out (by kernel_rfl)) ?_
             refine zU (i := 17) (N := some 48) zB5_18 (any_of HT_.out (by kernel_rfl)) ?_
             refine zU (i := 18) (N := some 49) zB5_19 (any_of HT_.out (by kernel_rfl)) ?_
             refine zU (i := 19) (N := some 50) zB5_20 (any_of HT_.out (by kernel_rfl)) ?_
             refine zU (i := 20) (N := some 51) zB5_21 (any_of HT_.out (by kernel_rfl)) ?_
             refine zU (i := 21) (N := some 52) zB5_22 (any_of HT_.out (by kernel_rfl)) ?_
             refine zU (i := 22) (N := some 53) zB5_23 (any_of HT_.out (by kernel_rfl)) ?_
             refine zU (i := 23) (N := some 54) zB5_24 (any_of HT_.out (by kernel_rfl)) ?_
             refine zU (i := 24) (N := some 55) zB5_25 (any_of HT_.out (by kernel_rfl)) ?_
             refine zU (i := 25) (N := some 56) zB5_26 (any_of HT_.out (by kernel_rfl)) ?_
             refine zU (i := 26) (N := some 57) zB5_27 (any_of HT_.out (by kernel_rfl)) ?_
             refine zU (i := 27) (N := some 58) zB5_28 (any_of HT_.out (by kernel_rfl)) ?_
             refine zU (i := 28) (N := some 59) zB5_29 (any_of HT_.out (by kernel_rfl)) ?_
             refine zU (i := 29) (N := some 60) zB5_30 (any_of HT_.out (by kernel_rfl)) ?_
             refine zU (i := 30) (N := some 61) zB5_31 (any_of HT_.out (by kernel_rfl)) ?_
             refine zU (i := 31) (N := some 62) zB5_32 (any_of HT_.out (by kernel_rfl)) ?_
             refine zU (i := 32) (N := some 63) zB5_33 (any_of HT_.out (by kernel_rfl)) ?_
             refine zP (i := 33) (N := some 64) zB5_34 (any_of HT_.out (by kernel_rfl)) ?_
             refine done_ (done_of HT_.out (by kernel_rfl)) ?_
             try go_wp2
             go_ret
             exact ⟨by first | rfl | (simp [errW_none, errW_some] <;> rfl) | (simp [*, errW_none, errW_some] <;> rfl), by repeat (first | (with_reducible first | exact HB.out | apply below_alloc | apply pw_below_drewN | apply below_drew1 | refine below_set ?_ GE203.out | refine below_set ?_ GE211.out) | exact HB.out)⟩
           ·rw [if_neg c18] at H
            exact absurd H (by simp)
          ·rw [if_neg c17] at H
           exact absurd H (by simp)
         ·rw [if_neg c16] at H
          have c16b0 : decide (x26_2 < ((rd_L1 l0_1 x19_1).length : Int)) = false := decide_eq_false c16
          clear c16
          have H' := Aside0.mk H
          clear H
          go_wp2
          go_roundg k2
          case measure => have := HK1.out; have := HK2.out; omega
          case rel => exact ⟨(wrap64 (x19_1 + 1)), (by first | rfl | (simp; done) | (simp [*]; done)), H', ⟨by have := HK1.out; have := HK2.out; omega⟩, ⟨by (with_reducible repeat (first | apply Kd.R_alloc | apply Kd.R_drewN | apply Kd.R_drew)); exact HO_212000.out⟩, ⟨by (with_reducible repeat (first | apply Kd.R_alloc | apply Kd.R_drewN | apply Kd.R_drew)); exact HO_212001.out⟩, ⟨by (with_reducible repeat (first | refine blk_drewN ?_ _ | refine blk_drew ?_ | refine blk_alloc ?_ _)); exact BK203.out⟩, ⟨by (with_reducible repeat (first | refine blk_drewN ?_ _ | refine blk_drew ?_ | refine blk_alloc ?_ _)); exact BK211.out⟩, ⟨by repeat (first | (with_reducible first | exact HB.out | apply below_alloc | apply pw_below_drewN | apply below_drew1 | refine below_set ?_ GE203.out | refine below_set ?_ GE211.out) | exact HB.out)⟩⟩
      ·rw [if_neg c15] at H
       exact absurd H (by simp)
     ·rw [if_neg c14] at H
      exact absurd H (by simp)
    ·rw [if_neg c13] at H
     have c13b0 : decide (x19_1 < (l0_1.length : Int)) = false := decide_eq_false c13
     clear c13
     obtain rfl := Option.some.inj H
     go_wp2
     go_ret
     exact ⟨by first | rfl | (simp [errW_none, errW_some] <;> rfl) | (simp [*, errW_none, errW_some] <;> rfl), by repeat (first | (with_reducible first | exact HB.out | apply below_alloc | apply pw_below_drewN | apply below_drew1 | refine below_set ?_ GE203.out | refine below_set ?_ GE211.out) | exact HB.out)⟩
 ·replace c3 := Bool.eq_false_iff.mpr c3
  subst c3
  have H1 : (some false) = some r := by rw [if_neg (show ¬ (false = true) by decide)] at H; exact H
  clear H
  have H := H1
  clear H1
  obtain rfl := Option.some.inj H
  go_enter Try.func55, Try.ntmps55
  go_wp2_with (first | ((with_reducible refine gate_dst (N := 1) rfl ?_); refine zX (N := 1) (cs := #[.slice A0_0 l0_0.length c0_0, .slice A0_1 l0_1.length c0_1]) (t := 26) ?_; intro gb203 hg w46 hbox hb; have n0_ := Aside0.mk (below_step (by repeat (first | (with_reducible first | exact HB.out | apply below_alloc | apply pw_below_drewN | apply below_drew1) | exact HB.out)) hb); have n1_ := Aside0.mk (hbox); have n2_ := Aside0.mk ((by rw [hg]; exact (below_size (by repeat (first | (with_reducible first | exact HB.out | apply below_alloc | apply pw_below_drewN | apply below_drew1) | exact HB.out))) : w.heap.size ≤ gb203)); have n3_ := Aside0.mk ((by rw [hg]; exact (below_size (by repeat (first | (with_reducible first | exact HB.out | apply below_alloc | apply pw_below_drewN | apply below_drew1) | exact HB.out))) : w.heap.size ≤ gb203)); clear HB; have HB := n0_; have BK203 := n1_; have GW203 := n2_; have GE203 := n3_; clear n0_ n1_ n2_ n3_; clear hb hbox hg; have hcz47_0 : w46.cell? ⟨gb203, 0, none⟩ = some (.slice A0_0 l0_0.length c0_0) := (blk_cell BK203.out 0).trans rfl; have hcz47_1 : w46.cell? ⟨gb203, 1, none⟩ = some (.slice A0_1 l0_1.length c0_1) := (blk_cell BK203.out 1).trans rfl; have hfz47_0 := blk_frozen BK203.out 0; have hfz47_1 := blk_frozen BK203.out 1) | ((with_reducible refine gate_callee (f := 65) rfl ?_); refine zG (some 11) Try.func65 #[.agg #[.slice A0_0 l0_0.length c0_0, .slice A0_1 l0_1.length c0_1]] ?_; (with_reducible refine (impl_ShapeOf.calls k _ _ l0_0 _ _ l0_1 t204 t207 false _ ?side1 ?side2 ?side3 ?side4 A2.out).mono ?_); (case side1 => repeat (first | exact (Kd.C_below HR0_0.out HB.out) | (with_reducible refine Kd.C_alloc ?_ _) | (with_reducible refine Kd.C_drewN ?_ _) | (with_reducible refine Kd.C_drew ?_))); (case side2 => exact HC0_0.out); (case side3 => repeat (first | exact (Kd.C_below HR0_1.out HB.out) | (with_reducible refine Kd.C_alloc ?_ _) | (with_reducible refine Kd.C_drewN ?_ _) | (with_reducible refine Kd.C_drew ?_))); (case side4 => exact HC0_1.out); rintro e w48 ⟨v205, v208, rfl, ho0, ho1, hb⟩; refine ⟨_, rfl, ?_⟩; have n0_ := Aside0.mk (Kd.R_lower ho0 (below_size (by repeat (first | (with_reducible first | exact HB.out | apply below_alloc | apply pw_below_drewN | apply below_drew1 | refine below_set ?_ GE203.out) | exact HB.out)))); have n1_ := Aside0.mk (Kd.R_lower ho1 (below_size (by repeat (first | (with_reducible first | exact HB.out | apply below_alloc | apply pw_below_drewN | apply below_drew1 | refine below_set ?_ GE203.out) | exact HB.out)))); have n2_ := Aside0.mk (blk_below (g := gb203) (o := .cells #[.slice A0_0 l0_0.length c0_0, .slice A0_1 l0_1.length c0_1] 26 (0, 0)) (by (with_reducible repeat (first | refine blk_drewN ?_ _ | refine blk_drew ?_ | refine blk_alloc ?_ _)); exact BK203.out) hb); have n3_ := Aside0.mk (below_step (by repeat (first | (with_reducible first | exact HB.out | apply below_alloc | apply pw_below_drewN | apply below_drew1 | refine below_set ?_ GE203.out) | exact HB.out)) hb); clear BK203; clear HB; have HO206 := n0_; have HO209 := n1_; have BK203 := n2_; have HB := n3_; clear n0_ n1_ n2_ n3_; (try clear hb); (try clear hb2); (try clear hk); (try clear hi); (try clear ho0); (try clear ho1)) | ((with_reducible refine gate_dst (N := 3) rfl ?_); refine zX (N := 3) (cs := #[.slice none 0 0, .slice none 0 0]) (t := 62) ?_; intro gb211 hg w49 hbox hb; have n0_ := Aside0.mk (Kd.R_below (by (with_reducible repeat (first | apply Kd.R_alloc | apply Kd.R_drewN | apply Kd.R_drew)); exact HO206.out) hb); have n1_ := Aside0.mk (Kd.R_below (by (with_reducible repeat (first | apply Kd.R_alloc | apply Kd.R_drewN | apply Kd.R_drew)); exact HO209.out) hb); have n2_ := Aside0.mk (blk_below (g := gb203) (o := .cells #[.slice A0_0 l0_0.length c0_0, .slice A0_1 l0_1.length c0_1] 26 (0, 0)) (by (with_reducible repeat (first | refine blk_drewN ?_ _ | refine blk_drew ?_ | refine blk_alloc ?_ _)); exact BK203.out) hb); have n3_ := Aside0.mk (below_step (by repeat (first | (with_reducible first | exact HB.out | apply below_alloc | apply pw_below_drewN | apply below_drew1 | refine below_set ?_ GE203.out) | exact HB.out)) hb); have n4_ := Aside0.mk (hbox); have n5_ := Aside0.mk ((by rw [hg]; exact (below_size (by repeat (first | (with_reducible first | exact HB.out | apply below_alloc | apply pw_below_drewN | apply below_drew1 | refine below_set ?_ GE203.out) | exact HB.out))) : w.heap.size ≤ gb211)); have n6_ := Aside0.mk ((by rw [hg]; exact (below_size (by repeat (first | (with_reducible first | exact HB.out | apply below_alloc | apply pw_below_drewN | apply below_drew1 | refine below_set ?_ GE203.out) | exact HB.out))) : w.heap.size ≤ gb211)); have n7_ := Aside0.mk ((by rw [hg]; exact Nat.ne_of_lt (blk_lt (g := gb203) (o := .cells #[.slice A0_0 l0_0.length c0_0, .slice A0_1 l0_1.length c0_1] 26 (0, 0)) (by (with_reducible repeat (first | refine blk_drewN ?_ _ | refine blk_drew ?_ | refine blk_alloc ?_ _)); exact BK203.out)) : gb203 ≠ gb211)); have n8_ := Aside0.mk ((by rw [hg]; exact Nat.ne_of_gt (blk_lt (g := gb203) (o := .cells #[.slice A0_0 l0_0.length c0_0, .slice A0_1 l0_1.length c0_1] 26 (0, 0)) (by (with_reducible repeat (first | refine blk_drewN ?_ _ | refine blk_drew ?_ | refine blk_alloc ?_ _)); exact BK203.out)) : gb211 ≠ gb203)); clear HO206; clear HO209; clear BK203; clear HB; have HO206 := n0_; have HO209 := n1_; have BK203 := n2_; have HB := n3_; have BK211 := n4_; have GW211 := n5_; have GE211 := n6_; have NB203_211 := n7_; have NB211_203 := n8_; clear n0_ n1_ n2_ n3_ n4_ n5_ n6_ n7_ n8_; clear hb hbox hg; obtain ⟨Ao50, co50, eo50⟩ := Kd.R_slice HO206.out; subst eo50; have hnb51 := NB211_203.out; have hnc51 := NB203_211.out; have hcz52_0 : w49.cell? ⟨gb211, 0, none⟩ = some (.slice none 0 0) := (blk_cell BK211.out 0).trans rfl; have hcz52_1 : w49.cell? ⟨gb211, 1, none⟩ = some (.slice none 0 0) := (blk_cell BK211.out 1).trans rfl; have hfz52_0 := blk_frozen BK211.out 0; have hfz52_1 := blk_frozen BK211.out 1; obtain ⟨Ao53, co53, eo53⟩ := Kd.R_slice HO209.out; subst eo53))
  go_ret
  exact ⟨by first | rfl | (simp [errW_none, errW_some] <;> rfl) | (simp [*, errW_none, errW_some] <;> rfl), by repeat (first | (with_reducible first | exact HB.out | apply below_alloc | apply pw_below_drewN | apply below_drew1 | refine below_set ?_ GE203.out | refine below_set ?_ GE211.out) | exact HB.out)⟩

end Go.Proofs.Ytdcdndfgdmcomaa.F
