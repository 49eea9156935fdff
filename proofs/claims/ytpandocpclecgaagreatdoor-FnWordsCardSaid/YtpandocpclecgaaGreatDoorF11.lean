/- For each Go function named below: the plain Lean function that it computes, and that its call returns just that; conditions: those that each theorem names. -/
import Derived.Test.YtpandocpclecgaaGreatDoorF0
import Derived.Test.YtpandocpclecgaaGreatDoorF2
import Derived.Test.YtpandocpclecgaaGreatDoorF9
import Derived.Test.YtpandocpclecgaaGreatDoorF10
namespace Go.Proofs.YtpandocpclecgaaGreatDoor.F
open Go.RowKit Go.Proofs.YtpandocpclecgaaGreatDoorW.PrintWords Go.Proofs.YtpandocpclecgaaGreatDoorW.PrintLast Go.Proofs.YtpandocpclecgaaGreatDoorW.PrintMore
attribute [local go_sem] max2_int min2_int max_two min_two max_three min_three max_four min_four   -- for this text's walks alone
set_option linter.unusedVariables false
set_option linter.unusedSimpArgs false
abbrev zB11_0 : Array Bool := #[false, false, false, false, false, false, false, false, false, false, false, false, false, false, false, false, false, false, false, false, false, false, false, false, false, false, false, false, false, false, false, false, false, false]
abbrev zB11_1 : Array Bool := #[true, false, false, false, false, false, false, false, false, false, false, false, false, false, false, false, false, false, false, false, false, false, false, false, false, false, false, false, false, false, false, false, false, false]
abbrev zB11_2 : Array Bool := #[true, true, false, false, false, false, false, false, false, false, false, false, false, false, false, false, false, false, false, false, false, false, false, false, false, false, false, false, false, false, false, false, false, false]
abbrev zB11_3 : Array Bool := #[true, true, true, false, false, false, false, false, false, false, false, false, false, false, false, false, false, false, false, false, false, false, false, false, false, false, false, false, false, false, false, false, false, false]
abbrev zB11_4 : Array Bool := #[true, true, true, true, false, false, false, false, false, false, false, false, false, false, false, false, false, false, false, false, false, false, false, false, false, false, false, false, false, false, false, false, false, false]
abbrev zB11_5 : Array Bool := #[true, true, true, true, true, false, false, false, false, false, false, false, false, false, false, false, false, false, false, false, false, false, false, false, false, false, false, false, false, false, false, false, false, false]
abbrev zB11_6 : Array Bool := #[true, true, true, true, true, true, false, false, false, false, false, false, false, false, false, false, false, false, false, false, false, false, false, false, false, false, false, false, false, false, false, false, false, false]
abbrev zB11_7 : Array Bool := #[true, true, true, true, true, true, true, false, false, false, false, false, false, false, false, false, false, false, false, false, false, false, false, false, false, false, false, false, false, false, false, false, false, false]
abbrev zB11_8 : Array Bool := #[true, true, true, true, true, true, true, true, false, false, false, false, false, false, false, false, false, false, false, false, false, false, false, false, false, false, false, false, false, false, false, false, false, false]
abbrev zB11_9 : Array Bool := #[true, true, true, true, true, true, true, true, true, false, false, false, false, false, false, false, false, false, false, false, false, false, false, false, false, false, false, false, false, false, false, false, false, false]
abbrev zB11_10 : Array Bool := #[true, true, true, true, true, true, true, true, true, true, false, false, false, false, false, false, false, false, false, false, false, false, false, false, false, false, false, false, false, false, false, false, false, false]
abbrev zB11_11 : Array Bool := #[true, true, true, true, true, true, true, true, true, true, true, false, false, false, false, false, false, false, false, false, false, false, false, false, false, false, false, false, false, false, false, false, false, false]
abbrev zB11_12 : Array Bool := #[true, true, true, true, true, true, true, true, true, true, true, true, false, false, false, false, false, false, false, false, false, false, false, false, false, false, false, false, false, false, false, false, false, false]
abbrev zB11_13 : Array Bool := #[true, true, true, true, true, true, true, true, true, true, true, true, true, false, false, false, false, false, false, false, false, false, false, false, false, false, false, false, false, false, false, false, false, false]
abbrev zB11_14 : Array Bool := #[true, true, true, true, true, true, true, true, true, true, true, true, true, true, false, false, false, false, false, false, false, false, false, false, false, false, false, false, false, false, false, false, false, false]
abbrev zB11_15 : Array Bool := #[true, true, true, true, true, true, true, true, true, true, true, true, true, true, true, false, false, false, false, false, false, false, false, false, false, false, false, false, false, false, false, false, false, false]
abbrev zB11_16 : Array Bool := #[true, true, true, true, true, true, true, true, true, true, true, true, true, true, true, true, false, false, false, false, false, false, false, false, false, false, false, false, false, false, false, false, false, false]
abbrev zB11_17 : Array Bool := #[true, true, true, true, true, true, true, true, true, true, true, true, true, true, true, true, true, false, false, false, false, false, false, false, false, false, false, false, false, false, false, false, false, false]
abbrev zB11_18 : Array Bool := #[true, true, true, true, true, true, true, true, true, true, true, true, true, true, true, true, true, true, false, false, false, false, false, false, false, false, false, false, false, false, false, false, false, false]
abbrev zB11_19 : Array Bool := #[true, true, true, true, true, true, true, true, true, true, true, true, true, true, true, true, true, true, true, false, false, false, false, false, false, false, false, false, false, false, false, false, false, false]
abbrev zB11_20 : Array Bool := #[true, true, true, true, true, true, true, true, true, true, true, true, true, true, true, true, true, true, true, true, false, false, false, false, false, false, false, false, false, false, false, false, false, false]
abbrev zB11_21 : Array Bool := #[true, true, true, true, true, true, true, true, true, true, true, true, true, true, true, true, true, true, true, true, true, false, false, false, false, false, false, false, false, false, false, false, false, false]
abbrev zB11_22 : Array Bool := #[true, true, true, true, true, true, true, true, true, true, true, true, true, true, true, true, true, true, true, true, true, true, false, false, false, false, false, false, false, false, false, false, false, false]
abbrev zB11_23 : Array Bool := #[true, true, true, true, true, true, true, true, true, true, true, true, true, true, true, true, true, true, true, true, true, true, true, false, false, false, false, false, false, false, false, false, false, false]
abbrev zB11_24 : Array Bool := #[true, true, true, true, true, true, true, true, true, true, true, true, true, true, true, true, true, true, true, true, true, true, true, true, false, false, false, false, false, false, false, false, false, false]
abbrev zB11_25 : Array Bool := #[true, true, true, true, true, true, true, true, true, true, true, true, true, true, true, true, true, true, true, true, true, true, true, true, true, false, false, false, false, false, false, false, false, false]
abbrev zB11_26 : Array Bool := #[true, true, true, true, true, true, true, true, true, true, true, true, true, true, true, true, true, true, true, true, true, true, true, true, true, true, false, false, false, false, false, false, false, false]
abbrev zB11_27 : Array Bool := #[true, true, true, true, true, true, true, true, true, true, true, true, true, true, true, true, true, true, true, true, true, true, true, true, true, true, true, false, false, false, false, false, false, false]
abbrev zB11_28 : Array Bool := #[true, true, true, true, true, true, true, true, true, true, true, true, true, true, true, true, true, true, true, true, true, true, true, true, true, true, true, true, false, false, false, false, false, false]
abbrev zB11_29 : Array Bool := #[true, true, true, true, true, true, true, true, true, true, true, true, true, true, true, true, true, true, true, true, true, true, true, true, true, true, true, true, true, false, false, false, false, false]
abbrev zB11_30 : Array Bool := #[true, true, true, true, true, true, true, true, true, true, true, true, true, true, true, true, true, true, true, true, true, true, true, true, true, true, true, true, true, true, false, false, false, false]
abbrev zB11_31 : Array Bool := #[true, true, true, true, true, true, true, true, true, true, true, true, true, true, true, true, true, true, true, true, true, true, true, true, true, true, true, true, true, true, true, false, false, false]
abbrev zB11_32 : Array Bool := #[true, true, true, true, true, true, true, true, true, true, true, true, true, true, true, true, true, true, true, true, true, true, true, true, true, true, true, true, true, true, true, true, false, false]
abbrev zB11_33 : Array Bool := #[true, true, true, true, true, true, true, true, true, true, true, true, true, true, true, true, true, true, true, true, true, true, true, true, true, true, true, true, true, true, true, true, true, false]
abbrev zB11_34 : Array Bool := #[true, true, true, true, true, true, true, true, true, true, true, true, true, true, true, true, true, true, true, true, true, true, true, true, true, true, true, true, true, true, true, true, true, true]
abbrev zB11_35 : Array Bool := #[true, true, true, true, true, true, true, true, true, true, true, true, true, true, true, true, true, true, true, true, true, false, true, false, false, false, false, false, false, false, false, false, false, false]
abbrev zB11_36 : Array Bool := #[true, true, true, true, true, true, true, true, true, true, true, true, true, true, true, true, true, true, true, true, true, false, true, true, false, false, false, false, false, false, false, false, false, false]
abbrev zB11_37 : Array Bool := #[true, true, true, true, true, true, true, true, true, true, true, true, true, true, true, true, true, true, true, true, true, false, true, true, true, false, false, false, false, false, false, false, false, false]
abbrev zB11_38 : Array Bool := #[true, true, true, true, true, true, true, true, true, true, true, true, true, true, true, true, true, true, true, true, true, false, true, true, true, false, true, false, false, false, false, false, false, false]
abbrev zB11_39 : Array Bool := #[true, true, true, true, true, true, true, true, true, true, true, true, true, true, true, true, true, true, true, true, true, false, true, true, true, false, true, false, true, false, false, false, false, false]
abbrev zB11_40 : Array Bool := #[true, true, true, true, true, true, true, true, true, true, true, true, true, true, true, true, true, true, true, true, true, true, true, true, true, false, true, false, true, false, false, false, false, false]
abbrev zB11_41 : Array Bool := #[true, true, true, true, true, true, true, true, true, true, true, true, true, true, true, true, true, true, true, true, true, true, true, true, true, true, true, false, true, false, false, false, false, false]

mutual
def impl_IsTableau.l0 : Nat → List (List Int) → Int → Int → List Int → List (List Int) → Option (Bool)
 | 0, _, _, _, _, _ => none
 | k + 1, x17, x18, x19, x541000, x541001 => if x19 < x18 then (if 0 ≤ x19 then (if x19 < (x17.length : Int) then (impl_IsTableau.l1 k x19 (rd_L2 x17 x19) x17 x18 x19 (rd_L2 x17 x19) ((rd_L2 x17 x19).length : Int) 0 x541000 x541001) else (none)) else (none)) else (some true)
def impl_IsTableau.l1 : Nat → Int → List Int → List (List Int) → Int → Int → List Int → Int → Int → List Int → List (List Int) → Option (Bool)
 | 0, _, _, _, _, _, _, _, _, _, _ => none
 | k + 1, x5, x6, x17, x18, x19, x24, x25, x26, x541000, x541001 => if x26 < x25 then (if 0 ≤ x26 then (if x26 < (x24.length : Int) then ((impl_within.f (rd x24 x26) 1 9).bind fun t551 => (if t551 = true then (if x26 > 0 then (if 0 ≤ (wrap64 (x26 - 1)) then (if (wrap64 (x26 - 1)) < (x6.length : Int) then (if (rd x24 x26) < (rd x6 (wrap64 (x26 - 1))) then (some false) else (if x5 > 0 then ((impl_at.f x541000 x5).bind fun t553 => ((impl_Tableau_entry.f x541000 x541001 (wrap64 (x5 - 1)) (wrap64 (t553 + x26))).bind fun t554 => (if (rd x24 x26) ≤ t554 then (some false) else (impl_IsTableau.l1 k x5 x6 x17 x18 x19 x24 x25 (wrap64 (x26 + 1)) x541000 x541001)))) else (impl_IsTableau.l1 k x5 x6 x17 x18 x19 x24 x25 (wrap64 (x26 + 1)) x541000 x541001))) else (none)) else (none)) else (if x5 > 0 then ((impl_at.f x541000 x5).bind fun t555 => ((impl_Tableau_entry.f x541000 x541001 (wrap64 (x5 - 1)) (wrap64 (t555 + x26))).bind fun t556 => (if (rd x24 x26) ≤ t556 then (some false) else (impl_IsTableau.l1 k x5 x6 x17 x18 x19 x24 x25 (wrap64 (x26 + 1)) x541000 x541001)))) else (impl_IsTableau.l1 k x5 x6 x17 x18 x19 x24 x25 (wrap64 (x26 + 1)) x541000 x541001))) else (some false))) else (none)) else (none)) else (impl_IsTableau.l0 k x17 x18 (wrap64 (x19 + 1)) x541000 x541001)
end
def impl_IsTableau.f (k : Nat) (l0_0 : List Int) (l0_1 : List (List Int)) : Option (Bool) := (impl_ShapeOf.f k l0_0 l0_1).bind fun bt541 => (if bt541.2.2 = true then (impl_IsTableau.l0 k l0_1 (l0_1.length : Int) 0 l0_0 l0_1) else (some false))
def impl_IsTableau.T10 : Bool × List (List Nat × List Nat) := (true, [([], []), ([0], [0]), ([1], [1]), ([2, 1], [2]), ([3], [3]), ([4, 3], [3, 4]), ([5, 3, 3], [3, 5]), ([6], [6]), ([6], [6]), ([6], [6]), ([9, 6], [6, 9]), ([8, 10, 6], [6, 8, 10]), ([11, 6], [6, 11]), ([7, 12, 6], [6, 7, 12]), ([6, 13, 3], [3, 6, 13]), ([3, 14], [3, 14]), ([15, 6], [15]), ([16], [16]), ([17, 16], [16, 17]), ([18, 16, 16], [16, 18]), ([19], [19]), ([19], [19]), ([19], [19]), ([22, 19], [19, 22]), ([19], [19]), ([24, 19], [19, 24]), ([19], [19]), ([25, 26, 19, 19], [19, 25, 26]), ([19], [19]), ([27, 28, 19], [19, 27, 28]), ([21, 23, 29, 27, 19], [19, 21, 23, 29]), ([20, 30, 19], [19, 20, 30]), ([19, 31, 16], [16, 19, 31]), ([16, 32], [16, 32])])
def impl_IsTableau.B10 : List Nat := [0, 1, 3, 7, 15, 31, 63, 127, 127, 127, 639, 1919, 3967, 8191, 16383, 32767, 65535, 131071, 262143, 524287, 1048575, 1048575, 1048575, 5242879, 1048575, 17825791, 1048575, 118489087, 1048575, 521142271, 1072693247, 2147483647, 4294967295, 8589934591]
theorem impl_IsTableau.tab10 : rtab .any (opsOf Tryz.f44 10) = impl_IsTableau.T10 := by kernel_rfl
theorem impl_IsTableau.bits10 : waitsOk impl_IsTableau.T10.2 impl_IsTableau.B10 = true := by kernel_rfl
set_option maxHeartbeats 8000000 in
set_option maxRecDepth 100000 in
theorem impl_IsTableau.calls (k : Nat) (A0_0 : Option Addr) (c0_0 : Nat) (l0_0 : List Int) (A0_1 : Option Addr) (c0_1 : Nat) (l0_1 : List (List Int)) (r : Bool) (w : World) (hr0_0 : Kd.C (Kd.int .i64) w A0_0 l0_0.length l0_0) (hc0_0 : l0_0.length ≤ c0_0) (hr0_1 : Kd.C (Kd.slice 3 (Kd.int .i64)) w A0_1 l0_1.length l0_1) (hc0_1 : l0_1.length ≤ c0_1) (h : impl_IsTableau.f k l0_0 l0_1 = some r) :
  Calls Tryz.prog 44 #[.agg #[.slice A0_0 l0_0.length c0_0, .slice A0_1 l0_1.length c0_1]] w fun e w' => e = .returned (.bool r) ∧ Below w.heap.size w w' := by
 have hu29 := Tryz.underlying29
 have hu74 := Tryz.underlying74
 have HR0_0 := Aside0.mk hr0_0
 have HC0_0 := Aside0.mk hc0_0
 clear hr0_0 hc0_0
 have HR0_1 := Aside0.mk hr0_1
 have HC0_1 := Aside0.mk hc0_1
 clear hr0_1 hc0_1
 have HB := Aside0.mk (Below.refl w.heap.size w)
 have H : ((impl_ShapeOf.f k l0_0 l0_1).bind fun bt541 => (if bt541.2.2 = true then (impl_IsTableau.l0 k l0_1 (l0_1.length : Int) 0 l0_0 l0_1) else (some false))) = some r := h
 clear h
 replace H := Option.bind_eq_some_iff.mp H
 obtain ⟨⟨t541, t544, t547⟩, A20, H⟩ := H
 replace H : (if t547 = true then (impl_IsTableau.l0 k l0_1 (l0_1.length : Int) 0 l0_0 l0_1) else (some false)) = some r := H
 have A2 := Aside0.mk A20
 clear A20
 by_cases c3 : t547 = true
 ·subst c3
  have H1 : (impl_IsTableau.l0 k l0_1 (l0_1.length : Int) 0 l0_0 l0_1) = some r := by rw [if_pos rfl] at H; exact H
  clear H
  have H := H1
  clear H1
  have H' := Aside0.mk H
  clear H
  go_enter Tryz.func44, Tryz.ntmps44
  go_wp2_with (first | ((with_reducible refine gate_dst (N := 1) rfl ?_); refine zX (N := 1) (cs := #[.slice A0_0 l0_0.length c0_0, .slice A0_1 l0_1.length c0_1]) (t := 29) ?_; intro gb540 hg w4 hbox hb; have n0_ := Aside0.mk (below_step (zB HB.out) hb); have n1_ := Aside0.mk (hbox); have n2_ := Aside0.mk ((by rw [hg]; exact (below_size (zB HB.out)) : w.heap.size ≤ gb540)); have n3_ := Aside0.mk ((by rw [hg]; exact (below_size (zB HB.out)) : w.heap.size ≤ gb540)); clear HB; have HB := n0_; have BK540 := n1_; have GW540 := n2_; have GE540 := n3_; clear n0_ n1_ n2_ n3_; clear hb hbox hg; have hcz5_0 : w4.cell? ⟨gb540, 0, none⟩ = some (.slice A0_0 l0_0.length c0_0) := (blk_cell BK540.out 0).trans rfl; have hcz5_1 : w4.cell? ⟨gb540, 1, none⟩ = some (.slice A0_1 l0_1.length c0_1) := (blk_cell BK540.out 1).trans rfl; have hfz5_0 := blk_frozen BK540.out 0; have hfz5_1 := blk_frozen BK540.out 1) | ((with_reducible refine gate_callee (f := 60) rfl ?_); refine zG (some 11) Tryz.func60 #[.agg #[.slice A0_0 l0_0.length c0_0, .slice A0_1 l0_1.length c0_1]] ?_; (with_reducible refine (impl_ShapeOf.calls k _ _ l0_0 _ _ l0_1 t541 t544 true _ ?side1 ?side2 ?side3 ?side4 A2.out).mono ?_); (case side1 => exact zQ (Kd.C_below HR0_0.out HB.out)); (case side2 => exact HC0_0.out); (case side3 => exact zQ (Kd.C_below HR0_1.out HB.out)); (case side4 => exact HC0_1.out); rintro e w6 ⟨v542, v545, rfl, ho0, ho1, hb⟩; refine ⟨_, rfl, ?_⟩; have n0_ := Aside0.mk (Kd.R_lower ho0 (below_size (zB1 HB.out GE540.out))); have n1_ := Aside0.mk (Kd.R_lower ho1 (below_size (zB1 HB.out GE540.out))); have n2_ := Aside0.mk (blk_below (g := gb540) (o := .cells #[.slice A0_0 l0_0.length c0_0, .slice A0_1 l0_1.length c0_1] 29 (0, 0)) (zH BK540.out) hb); have n3_ := Aside0.mk (below_step (zB1 HB.out GE540.out) hb); clear BK540; clear HB; have HO543 := n0_; have HO546 := n1_; have BK540 := n2_; have HB := n3_; clear n0_ n1_ n2_ n3_; (try clear hb); (try clear hb2); (try clear hk); (try clear hi); (try clear ho0); (try clear ho1)) | ((with_reducible refine gate_dst (N := 3) rfl ?_); refine zX (N := 3) (cs := #[.slice none 0 0, .slice none 0 0]) (t := 74) ?_; intro gb548 hg w7 hbox hb; have n0_ := Aside0.mk (Kd.R_below (zR HO543.out) hb); have n1_ := Aside0.mk (Kd.R_below (zR HO546.out) hb); have n2_ := Aside0.mk (blk_below (g := gb540) (o := .cells #[.slice A0_0 l0_0.length c0_0, .slice A0_1 l0_1.length c0_1] 29 (0, 0)) (zH BK540.out) hb); have n3_ := Aside0.mk (below_step (zB1 HB.out GE540.out) hb); have n4_ := Aside0.mk (hbox); have n5_ := Aside0.mk ((by rw [hg]; exact (below_size (zB1 HB.out GE540.out)) : w.heap.size ≤ gb548)); have n6_ := Aside0.mk ((by rw [hg]; exact (below_size (zB1 HB.out GE540.out)) : w.heap.size ≤ gb548)); have n7_ := Aside0.mk ((by rw [hg]; exact Nat.ne_of_lt (blk_lt (g := gb540) (o := .cells #[.slice A0_0 l0_0.length c0_0, .slice A0_1 l0_1.length c0_1] 29 (0, 0)) (zH BK540.out)) : gb540 ≠ gb548)); have n8_ := Aside0.mk ((by rw [hg]; exact Nat.ne_of_gt (blk_lt (g := gb540) (o := .cells #[.slice A0_0 l0_0.length c0_0, .slice A0_1 l0_1.length c0_1] 29 (0, 0)) (zH BK540.out)) : gb548 ≠ gb540)); clear HO543; clear HO546; clear BK540; clear HB; have HO543 := n0_; have HO546 := n1_; have BK540 := n2_; have HB := n3_; have BK548 := n4_; have GW548 := n5_; have GE548 := n6_; have NB540_548 := n7_; have NB548_540 := n8_; clear n0_ n1_ n2_ n3_ n4_ n5_ n6_ n7_ n8_; clear hb hbox hg; obtain ⟨Ao8, co8, eo8⟩ := Kd.R_slice HO543.out; subst eo8; have hnb9 := NB548_540.out; have hnc9 := NB540_548.out; have hcz10_0 : w7.cell? ⟨gb548, 0, none⟩ = some (.slice none 0 0) := (blk_cell BK548.out 0).trans rfl; have hcz10_1 : w7.cell? ⟨gb548, 1, none⟩ = some (.slice none 0 0) := (blk_cell BK548.out 1).trans rfl; have hfz10_0 := blk_frozen BK548.out 0; have hfz10_1 := blk_frozen BK548.out 1; obtain ⟨Ao11, co11, eo11⟩ := Kd.R_slice HO546.out; subst eo11; have hcz12_0 : w7.cell? ⟨gb540, 0, none⟩ = some (.slice A0_0 l0_0.length c0_0) := (blk_cell BK540.out 0).trans rfl; have hcz12_1 : w7.cell? ⟨gb540, 1, none⟩ = some (.slice A0_1 l0_1.length c0_1) := (blk_cell BK540.out 1).trans rfl; have hfz12_0 := blk_frozen BK540.out 0; have hfz12_1 := blk_frozen BK540.out 1))
  go_loopg [19] k (fun kq v19 w' => ∃ (x19_1 : Int), v19 = .int .i64 x19_1 ∧ Aside0 (impl_IsTableau.l0 kq l0_1 (l0_1.length : Int) x19_1 l0_0 l0_1 = some r) ∧ Aside0 (kq ≤ k) ∧ Aside0 (Kd.R (Kd.int .i64) 3 w' w.heap.size (fun k_ => some k_ ≠ ((.slice Ao11 t544.length co11) : Value).ownBlock) (.slice Ao8 t541.length co8) t541) ∧ Aside0 (Kd.R (Kd.int .i64) 3 w' w.heap.size (fun k_ => some k_ ≠ ((.slice Ao8 t541.length co8) : Value).ownBlock) (.slice Ao11 t544.length co11) t544) ∧ Aside0 (w'.heap[gb540]? = some (.cells #[(.slice A0_0 l0_0.length c0_0), (.slice A0_1 l0_1.length c0_1)] 29 (0, 0))) ∧ Aside0 (w'.heap[gb548]? = some (.cells #[(.slice Ao8 t541.length co8), (.slice Ao11 t544.length co11)] 74 (0, 0))) ∧ Aside0 (Below w.heap.size w w'))
  case atStart => exact ⟨(0), zs, H', ⟨Nat.le_refl _⟩, ⟨zR (Kd.R_mono (Kd.R_far (p := ⟨gb548, 1, none⟩) (Kd.R_far (p := ⟨gb548, 0, none⟩) (Kd.R_types HO543.out BK548.out (by decide)) (fun _ hk => hk.2) (.slice Ao8 t541.length co8)) (fun _ hk => hk.2) (.slice Ao11 t544.length co11)) (fun _ hk => hk.1))⟩, ⟨zR (Kd.R_mono (Kd.R_far (p := ⟨gb548, 1, none⟩) (Kd.R_far (p := ⟨gb548, 0, none⟩) (Kd.R_types HO546.out BK548.out (by decide)) (fun _ hk => hk.2) (.slice Ao8 t541.length co8)) (fun _ hk => hk.2) (.slice Ao11 t544.length co11)) (fun _ hk => hk.1))⟩, ⟨by (with_reducible repeat (first | refine blk_drewN ?_ _ | refine blk_drew ?_ | refine blk_alloc ?_ _)); refine blk_far ?_ NB540_548.out _; (with_reducible repeat (first | refine blk_drewN ?_ _ | refine blk_drew ?_ | refine blk_alloc ?_ _)); refine blk_far ?_ NB540_548.out _; (with_reducible repeat (first | refine blk_drewN ?_ _ | refine blk_drew ?_ | refine blk_alloc ?_ _)); exact BK540.out⟩, ⟨by (with_reducible repeat (first | refine blk_drewN ?_ _ | refine blk_drew ?_ | refine blk_alloc ?_ _)); refine blk_put (cs := #[.slice Ao8 t541.length co8, .slice none 0 0]) ?_ 1 _ rfl; (with_reducible repeat (first | refine blk_drewN ?_ _ | refine blk_drew ?_ | refine blk_alloc ?_ _)); refine blk_put (cs := #[.slice none 0 0, .slice none 0 0]) ?_ 0 _ rfl; (with_reducible repeat (first | refine blk_drewN ?_ _ | refine blk_drew ?_ | refine blk_alloc ?_ _)); exact BK548.out⟩, ⟨zB2 HB.out GE540.out GE548.out⟩⟩
  case round =>
   clear H'
   try clear p2
   try clear c3
   try clear c4
   try clear c6
   try clear c9
   try clear hcz10_0
   try clear hcz10_1
   try clear hcz12_0
   try clear hcz12_1
   try clear hcz5_0
   try clear hcz5_1
   try clear hfz10_0
   try clear hfz10_1
   try clear hfz12_0
   try clear hfz12_1
   try clear hfz5_0
   try clear hfz5_1
   obtain ⟨x19_1, rfl, HA, HK1, HO_549000, HO_549001, BK540, BK548, HB⟩ := hrel
   cases gk with
   | zero => exact absurd HA.out (by simp [impl_IsTableau.l0])
   | succ k1 =>
    have H := HA.out
    clear HA
    simp only [impl_IsTableau.l0] at H
    by_cases c13 : x19_1 < (l0_1.length : Int)
    ·rw [if_pos c13] at H
     have c13b0 : decide (x19_1 < (l0_1.length : Int)) = true := decide_eq_true c13
     clear c13
     by_cases c14 : 0 ≤ x19_1
     ·rw [if_pos c14] at H
      have c14b0 : decide (0 ≤ x19_1) = true := decide_eq_true c14
      clear c14
      by_cases c15 : x19_1 < (l0_1.length : Int)
      ·rw [if_pos c15] at H
       have c15b0 : decide (x19_1 < (l0_1.length : Int)) = true := decide_eq_true c15
       clear c15
       have H' := Aside0.mk H
       clear H
       have p549 : 0 ≤ (x19_1 : Int) := zd
       have q549 : x19_1 < (l0_1.length : Int) := zd
       obtain ⟨ad549, A549_0, c549_0, e549, hx549_0, hl549_0, hi549_0⟩ := at_L2 HR0_1.out x19_1 p549 q549
       cases e549
       replace hx549_0 := (HB.out.cell (World.block_lt_of_cell? w _ hx549_0)).trans hx549_0
       have HR549_0 := Aside0.mk hi549_0
       have HC549_0 := Aside0.mk hl549_0
       clear hi549_0 hl549_0
       replace p549 := eq_true p549
       replace q549 := eq_true q549
       go_wp2
       go_loopg [26] k1 (fun kq v26 w' => ∃ (x26_2 : Int), v26 = .int .i64 x26_2 ∧ Aside0 (impl_IsTableau.l1 kq x19_1 (rd_L2 l0_1 x19_1) l0_1 (l0_1.length : Int) x19_1 (rd_L2 l0_1 x19_1) ((rd_L2 l0_1 x19_1).length : Int) x26_2 l0_0 l0_1 = some r) ∧ Aside0 (kq ≤ k1) ∧ Aside0 (Kd.R (Kd.int .i64) 3 w' w.heap.size (fun k_ => some k_ ≠ ((.slice Ao11 t544.length co11) : Value).ownBlock) (.slice Ao8 t541.length co8) t541) ∧ Aside0 (Kd.R (Kd.int .i64) 3 w' w.heap.size (fun k_ => some k_ ≠ ((.slice Ao8 t541.length co8) : Value).ownBlock) (.slice Ao11 t544.length co11) t544) ∧ Aside0 (w'.heap[gb540]? = some (.cells #[(.slice A0_0 l0_0.length c0_0), (.slice (some ad549) l0_1.length c0_1)] 29 (0, 0))) ∧ Aside0 (w'.heap[gb548]? = some (.cells #[(.slice Ao8 t541.length co8), (.slice Ao11 t544.length co11)] 74 (0, 0))) ∧ Aside0 (Below w.heap.size w w'))
       case atStart => exact ⟨(0), zs, H', ⟨Nat.le_refl _⟩, ⟨zR HO_549000.out⟩, ⟨zR HO_549001.out⟩, ⟨zH BK540.out⟩, ⟨zH BK548.out⟩, ⟨zB2 HB.out GE540.out GE548.out⟩⟩
       case round =>
        clear H'
        try clear c1
        try clear p2
        try clear c3
        try clear c4
        try clear c5
        try clear p5
        try clear q5
        try clear hx5
        try clear c6
        try clear c9
        try clear c13
        try clear c13b0
        try clear c14
        try clear c14b0
        try clear c15
        try clear c15b0
        try clear hcz10_0
        try clear hcz10_1
        try clear hcz12_0
        try clear hcz12_1
        try clear hcz5_0
        try clear hcz5_1
        try clear hfz10_0
        try clear hfz10_1
        try clear hfz12_0
        try clear hfz12_1
        try clear hfz5_0
        try clear hfz5_1
        try clear hx549_0
        try clear p2
        try clear p549
        try clear q549
        obtain ⟨x26_2, rfl, HA, HK2, HO_549000, HO_549001, BK540, BK548, HB⟩ := hrel
        cases gk with
        | zero => exact absurd HA.out (by simp [impl_IsTableau.l1])
        | succ k2 =>
         have H := HA.out
         clear HA
         simp only [impl_IsTableau.l1] at H
         by_cases c16 : x26_2 < ((rd_L2 l0_1 x19_1).length : Int)
         ·rw [if_pos c16] at H
          have c16b0 : decide (x26_2 < ((rd_L2 l0_1 x19_1).length : Int)) = true := decide_eq_true c16
          clear c16
          by_cases c17 : 0 ≤ x26_2
          ·rw [if_pos c17] at H
           have c17b0 : decide (0 ≤ x26_2) = true := decide_eq_true c17
           clear c17
           by_cases c18 : x26_2 < ((rd_L2 l0_1 x19_1).length : Int)
           ·rw [if_pos c18] at H
            have c18b0 : decide (x26_2 < ((rd_L2 l0_1 x19_1).length : Int)) = true := decide_eq_true c18
            clear c18
            replace H := Option.bind_eq_some_iff.mp H
            obtain ⟨t551, A190, H⟩ := H
            replace H : (if t551 = true then (if x26_2 > 0 then (if 0 ≤ (wrap64 (x26_2 - 1)) then (if (wrap64 (x26_2 - 1)) < ((rd_L2 l0_1 x19_1).length : Int) then (if (rd (rd_L2 l0_1 x19_1) x26_2) < (rd (rd_L2 l0_1 x19_1) (wrap64 (x26_2 - 1))) then (some false) else (if x19_1 > 0 then ((impl_at.f l0_0 x19_1).bind fun t553 => ((impl_Tableau_entry.f l0_0 l0_1 (wrap64 (x19_1 - 1)) (wrap64 (t553 + x26_2))).bind fun t554 => (if (rd (rd_L2 l0_1 x19_1) x26_2) ≤ t554 then (some false) else (impl_IsTableau.l1 k2 x19_1 (rd_L2 l0_1 x19_1) l0_1 (l0_1.length : Int) x19_1 (rd_L2 l0_1 x19_1) ((rd_L2 l0_1 x19_1).length : Int) (wrap64 (x26_2 + 1)) l0_0 l0_1)))) else (impl_IsTableau.l1 k2 x19_1 (rd_L2 l0_1 x19_1) l0_1 (l0_1.length : Int) x19_1 (rd_L2 l0_1 x19_1) ((rd_L2 l0_1 x19_1).length : Int) (wrap64 (x26_2 + 1)) l0_0 l0_1))) else (none)) else (none)) else (if x19_1 > 0 then ((impl_at.f l0_0 x19_1).bind fun t555 => ((impl_Tableau_entry.f l0_0 l0_1 (wrap64 (x19_1 - 1)) (wrap64 (t555 + x26_2))).bind fun t556 => (if (rd (rd_L2 l0_1 x19_1) x26_2) ≤ t556 then (some false) else (impl_IsTableau.l1 k2 x19_1 (rd_L2 l0_1 x19_1) l0_1 (l0_1.length : Int) x19_1 (rd_L2 l0_1 x19_1) ((rd_L2 l0_1 x19_1).length : Int) (wrap64 (x26_2 + 1)) l0_0 l0_1)))) else (impl_IsTableau.l1 k2 x19_1 (rd_L2 l0_1 x19_1) l0_1 (l0_1.length : Int) x19_1 (rd_L2 l0_1 x19_1) ((rd_L2 l0_1 x19_1).length : Int) (wrap64 (x26_2 + 1)) l0_0 l0_1))) else (some false)) = some r := H
            have A19 := Aside0.mk A190
            clear A190
            by_cases c20 : t551 = true
            ·subst c20
             have H1 : (if x26_2 > 0 then (if 0 ≤ (wrap64 (x26_2 - 1)) then (if (wrap64 (x26_2 - 1)) < ((rd_L2 l0_1 x19_1).length : Int) then (if (rd (rd_L2 l0_1 x19_1) x26_2) < (rd (rd_L2 l0_1 x19_1) (wrap64 (x26_2 - 1))) then (some false) else (if x19_1 > 0 then ((impl_at.f l0_0 x19_1).bind fun t553 => ((impl_Tableau_entry.f l0_0 l0_1 (wrap64 (x19_1 - 1)) (wrap64 (t553 + x26_2))).bind fun t554 => (if (rd (rd_L2 l0_1 x19_1) x26_2) ≤ t554 then (some false) else (impl_IsTableau.l1 k2 x19_1 (rd_L2 l0_1 x19_1) l0_1 (l0_1.length : Int) x19_1 (rd_L2 l0_1 x19_1) ((rd_L2 l0_1 x19_1).length : Int) (wrap64 (x26_2 + 1)) l0_0 l0_1)))) else (impl_IsTableau.l1 k2 x19_1 (rd_L2 l0_1 x19_1) l0_1 (l0_1.length : Int) x19_1 (rd_L2 l0_1 x19_1) ((rd_L2 l0_1 x19_1).length : Int) (wrap64 (x26_2 + 1)) l0_0 l0_1))) else (none)) else (none)) else (if x19_1 > 0 then ((impl_at.f l0_0 x19_1).bind fun t555 => ((impl_Tableau_entry.f l0_0 l0_1 (wrap64 (x19_1 - 1)) (wrap64 (t555 + x26_2))).bind fun t556 => (if (rd (rd_L2 l0_1 x19_1) x26_2) ≤ t556 then (some false) else (impl_IsTableau.l1 k2 x19_1 (rd_L2 l0_1 x19_1) l0_1 (l0_1.length : Int) x19_1 (rd_L2 l0_1 x19_1) ((rd_L2 l0_1 x19_1).length : Int) (wrap64 (x26_2 + 1)) l0_0 l0_1)))) else (impl_IsTableau.l1 k2 x19_1 (rd_L2 l0_1 x19_1) l0_1 (l0_1.length : Int) x19_1 (rd_L2 l0_1 x19_1) ((rd_L2 l0_1 x19_1).length : Int) (wrap64 (x26_2 + 1)) l0_0 l0_1))) = some r := by rw [if_pos rfl] at H; exact H
             clear H
             have H := H1
             clear H1
             by_cases c21 : x26_2 > 0
             ·rw [if_pos c21] at H
              have c21b0 : decide (0 < x26_2) = true := decide_eq_true c21
              clear c21
              obtain ⟨ji22, hji22⟩ : ∃ j_ : Int, (wrap64 (x26_2 - 1)) = j_ := ⟨_, rfl⟩
              replace H : (if 0 ≤ (ji22) then (if (ji22) < ((rd_L2 l0_1 x19_1).length : Int) then (if (rd (rd_L2 l0_1 x19_1) x26_2) < (rd (rd_L2 l0_1 x19_1) (ji22)) then (some false) else (if x19_1 > 0 then ((impl_at.f l0_0 x19_1).bind fun t553 => ((impl_Tableau_entry.f l0_0 l0_1 (wrap64 (x19_1 - 1)) (wrap64 (t553 + x26_2))).bind fun t554 => (if (rd (rd_L2 l0_1 x19_1) x26_2) ≤ t554 then (some false) else (impl_IsTableau.l1 k2 x19_1 (rd_L2 l0_1 x19_1) l0_1 (l0_1.length : Int) x19_1 (rd_L2 l0_1 x19_1) ((rd_L2 l0_1 x19_1).length : Int) (wrap64 (x26_2 + 1)) l0_0 l0_1)))) else (impl_IsTableau.l1 k2 x19_1 (rd_L2 l0_1 x19_1) l0_1 (l0_1.length : Int) x19_1 (rd_L2 l0_1 x19_1) ((rd_L2 l0_1 x19_1).length : Int) (wrap64 (x26_2 + 1)) l0_0 l0_1))) else (none)) else (none)) = some r := by first | (rw [hji22] at H; exact H) | (simp only [hji22] at H ⊢; exact H)
              (try rw [hji22] at A19)
              have hji22w : (IntKind.i64.wrap (x26_2 - 1)) = ji22 := (i64_w _).trans hji22
              by_cases c23 : 0 ≤ (ji22)
              ·rw [if_pos c23] at H
               have c23b0 : decide (0 ≤ (ji22)) = true := decide_eq_true c23
               clear c23
               by_cases c24 : (ji22) < ((rd_L2 l0_1 x19_1).length : Int)
               ·rw [if_pos c24] at H
                have c24b0 : decide ((ji22) < ((rd_L2 l0_1 x19_1).length : Int)) = true := decide_eq_true c24
                clear c24
                by_cases c25 : (rd (rd_L2 l0_1 x19_1) x26_2) < (rd (rd_L2 l0_1 x19_1) (ji22))
                ·rw [if_pos c25] at H
                 have c25b0 : decide ((rd (rd_L2 l0_1 x19_1) x26_2) < (rd (rd_L2 l0_1 x19_1) (ji22))) = true := decide_eq_true c25
                 clear c25
                 obtain rfl := Option.some.inj H
                 have p550 : 0 ≤ (x26_2 : Int) := zd
                 have q550 : x26_2 < ((rd_L2 l0_1 x19_1).length : Int) := zd
                 obtain ⟨ad550, e550, hx550_0⟩ := Kd.at_int HR549_0.out x26_2 p550 q550
                 cases e550
                 replace hx550_0 := (HB.out.cell (World.block_lt_of_cell? w _ hx550_0)).trans hx550_0
                 replace p550 := eq_true p550
                 replace q550 := eq_true q550
                 try go_wp2
                 have n0_ := Aside0.mk (Kd.R_drew HO_549000.out)
                 have n1_ := Aside0.mk (Kd.R_drew HO_549001.out)
                 have n2_ := Aside0.mk (blk_drew BK540.out)
                 have n3_ := Aside0.mk (blk_drew BK548.out)
                 have n4_ := Aside0.mk (below_drew1 HB.out)
                 clear HO_549000
                 clear HO_549001
                 clear BK540
                 clear BK548
                 clear HB
                 have HO_549000 := n0_
                 have HO_549001 := n1_
                 have BK540 := n2_
                 have BK548 := n3_
                 have HB := n4_
                 clear n0_ n1_ n2_ n3_ n4_
                 have p552 : 0 ≤ ((ji22) : Int) := zd
                 have q552 : (ji22) < ((rd_L2 l0_1 x19_1).length : Int) := zd
                 obtain ⟨ad552, e552, hx552_0⟩ := Kd.at_int HR549_0.out (ji22) p552 q552
                 have hw552_0 := hx552_0
                 obtain rfl : ad550 = ad552 := (by injection e552)
                 replace hx552_0 := (HB.out.cell (World.block_lt_of_cell? w _ hx552_0)).trans hx552_0
                 replace p552 := eq_true p552
                 replace q552 := eq_true q552
                 refine start_ (n := 34) (S := fun w' => w'.cell? (ad550.add ((ji22)).toNat) = some (.int .i64 (rd (rd_L2 l0_1 x19_1) (ji22)))) (ds := []) zB11_0 (by kernel_rfl) rfl rfl (((HB.out.cell (World.block_lt_of_cell? w _ hw552_0)).trans hw552_0)) (fun hHeld => ?_); refine with_tabW impl_IsTableau.tab10 impl_IsTableau.bits10 (fun HT_ HW_ => ?_)
                 generalize wr.drew = w26 at HO_549000 HO_549001 BK540 BK548 HB hx552_0 hHeld ⊢
                 refine zP (i := 0) (N := some 31) zB11_1 (zk HT_.out) ?_
                 refine one_ (i := 1) (N := some 32) zB11_2 rfl rfl (one_of HT_.out (by kernel_rfl)) (by decide) (fun K hK => ?_)
                 refine zC Tryz.func37 #[.int .i64 (rd (rd_L2 l0_1 x19_1) x26_2), .int .i64 1, .int .i64 9] ?_
                 with_reducible refine (impl_within.calls (rd (rd_L2 l0_1 x19_1) x26_2) 1 9 true _ A19.out).mono ?_
                 rintro e w' ⟨rfl, ⟨nd, rfl⟩⟩
                 refine ⟨_, rfl, ?_⟩
                 refine hK.out _ _ (((HB.out.cell (World.block_lt_of_cell? w _ hw552_0)).trans hw552_0)) (fun hHeld => ?_)
                 clear hK K
                 refine zM (some 32) ?_
                 refine zP (i := 2) (N := some 33) zB11_3 (zk HT_.out) ?_
                 refine zP (i := 3) (N := some 34) zB11_4 (zk HT_.out) ?_
                 refine zP (i := 4) (N := some 35) zB11_5 (zk HT_.out) ?_
                 refine zP (i := 5) (N := some 36) zB11_6 (zk HT_.out) ?_
                 refine zP (i := 6) (N := some 37) zB11_7 (zk HT_.out) ?_
                 refine zP (i := 7) (N := some 38) zB11_8 (zk HT_.out) ?_
                 refine zP (i := 8) (N := some 39) zB11_9 (zk HT_.out) ?_
                 refine zP (i := 9) (N := some 40) zB11_10 (zk HT_.out) ?_
                 refine zP (i := 10) (N := some 41) zB11_11 (zk HT_.out) ?_
                 refine zP (i := 11) (N := some 42) zB11_12 (zk HT_.out) ?_
                 refine zT1 (i := 12) (N := some 43) zB11_13 (take_ofW HT_.out HW_.out (by kernel_rfl)) hHeld ?_
                 refine zP (i := 13) (N := some 44) zB11_14 (zk HT_.out) ?_
                 refine zP (i := 14) (N := some 45) zB11_15 (zk HT_.out) ?_
                 refine zP (i := 15) (N := some 46) zB11_16 (zk HT_.out) ?_
                 refine zP (i := 16) (N := some 47) zB11_17 (zk HT_.out) ?_
                 refine zU (i := 17) (N := some 48) zB11_18 (zk HT_.out) ?_
                 refine zU (i := 18) (N := some 49) zB11_19 (zk HT_.out) ?_
                 refine zU (i := 19) (N := some 50) zB11_20 (zk HT_.out) ?_
                 refine zU (i := 20) (N := some 51) zB11_21 (zk HT_.out) ?_
                 refine zU (i := 21) (N := some 52) zB11_22 (zk HT_.out) ?_
                 refine zU (i := 22) (N := some 53) zB11_23 (zk HT_.out) ?_
                 refine zU (i := 23) (N := some 54) zB11_24 (zk HT_.out) ?_
                 refine zU (i := 24) (N := some 55) zB11_25 (zk HT_.out) ?_
                 refine zU (i := 25) (N := some 56) zB11_26 (zk HT_.out) ?_
                 refine zU (i := 26) (N := some 57) zB11_27 (zk HT_.out) ?_
                 refine zU (i := 27) (N := some 58) zB11_28 (zk HT_.out) ?_
                 refine zU (i := 28) (N := some 59) zB11_29 (zk HT_.out) ?_
                 refine zU (i := 29) (N := some 60) zB11_30 (zk HT_.out) ?_
                 refine zU (i := 30) (N := some 61) zB11_31 (zk HT_.out) ?_
                 refine zU (i := 31) (N := some 62) zB11_32 (zk HT_.out) ?_
                 refine zU (i := 32) (N := some 63) zB11_33 (zk HT_.out) ?_
                 refine zP (i := 33) (N := some 64) zB11_34 (zk HT_.out) ?_
                 refine done_ (done_of HT_.out (by kernel_rfl)) ?_
                 try go_wp2
                 go_ret
                 exact ⟨by first | rfl | (simp [errW_none, errW_some] <;> rfl) | (simp only [← hji22]; first | rfl | (simp [errW_none, errW_some] <;> rfl)) | (simp [*, errW_none, errW_some] <;> rfl), zB2 HB.out GE540.out GE548.out⟩
                ·rw [if_neg c25] at H
                 have c25b0 : decide ((rd (rd_L2 l0_1 x19_1) x26_2) < (rd (rd_L2 l0_1 x19_1) (ji22))) = false := decide_eq_false c25
                 clear c25
                 by_cases c27 : x19_1 > 0
                 ·rw [if_pos c27] at H
                  have c27b0 : decide (0 < x19_1) = true := decide_eq_true c27
                  clear c27
                  replace H := Option.bind_eq_some_iff.mp H
                  obtain ⟨t553, A280, H⟩ := H
                  replace H : ((impl_Tableau_entry.f l0_0 l0_1 (wrap64 (x19_1 - 1)) (wrap64 (t553 + x26_2))).bind fun t554 => (if (rd (rd_L2 l0_1 x19_1) x26_2) ≤ t554 then (some false) else (impl_IsTableau.l1 k2 x19_1 (rd_L2 l0_1 x19_1) l0_1 (l0_1.length : Int) x19_1 (rd_L2 l0_1 x19_1) ((rd_L2 l0_1 x19_1).length : Int) (wrap64 (x26_2 + 1)) l0_0 l0_1))) = some r := H
                  have A28 := Aside0.mk A280
                  clear A280
                  replace H := Option.bind_eq_some_iff.mp H
                  obtain ⟨t554, A290, H⟩ := H
                  replace H : (if (rd (rd_L2 l0_1 x19_1) x26_2) ≤ t554 then (some false) else (impl_IsTableau.l1 k2 x19_1 (rd_L2 l0_1 x19_1) l0_1 (l0_1.length : Int) x19_1 (rd_L2 l0_1 x19_1) ((rd_L2 l0_1 x19_1).length : Int) (wrap64 (x26_2 + 1)) l0_0 l0_1)) = some r := H
                  have A29 := Aside0.mk A290
                  clear A290
                  by_cases c30 : (rd (rd_L2 l0_1 x19_1) x26_2) ≤ t554
                  ·rw [if_pos c30] at H
                   have c30b0 : decide ((rd (rd_L2 l0_1 x19_1) x26_2) ≤ t554) = true := decide_eq_true c30
                   clear c30
                   obtain rfl := Option.some.inj H
                   have p550 : 0 ≤ (x26_2 : Int) := zd
                   have q550 : x26_2 < ((rd_L2 l0_1 x19_1).length : Int) := zd
                   obtain ⟨ad550, e550, hx550_0⟩ := Kd.at_int HR549_0.out x26_2 p550 q550
                   cases e550
                   replace hx550_0 := (HB.out.cell (World.block_lt_of_cell? w _ hx550_0)).trans hx550_0
                   replace p550 := eq_true p550
                   replace q550 := eq_true q550
                   try go_wp2
                   have n0_ := Aside0.mk (Kd.R_drew HO_549000.out)
                   have n1_ := Aside0.mk (Kd.R_drew HO_549001.out)
                   have n2_ := Aside0.mk (blk_drew BK540.out)
                   have n3_ := Aside0.mk (blk_drew BK548.out)
                   have n4_ := Aside0.mk (below_drew1 HB.out)
                   clear HO_549000
                   clear HO_549001
                   clear BK540
                   clear BK548
                   clear HB
                   have HO_549000 := n0_
                   have HO_549001 := n1_
                   have BK540 := n2_
                   have BK548 := n3_
                   have HB := n4_
                   clear n0_ n1_ n2_ n3_ n4_
                   have p552 : 0 ≤ ((ji22) : Int) := zd
                   have q552 : (ji22) < ((rd_L2 l0_1 x19_1).length : Int) := zd
                   obtain ⟨ad552, e552, hx552_0⟩ := Kd.at_int HR549_0.out (ji22) p552 q552
                   have hw552_0 := hx552_0
                   obtain rfl : ad550 = ad552 := (by injection e552)
                   replace hx552_0 := (HB.out.cell (World.block_lt_of_cell? w _ hx552_0)).trans hx552_0
                   replace p552 := eq_true p552
                   replace q552 := eq_true q552
                   refine start_ (n := 34) (S := fun w' => w'.cell? ⟨gb540, 0, none⟩ = some (.slice A0_0 l0_0.length c0_0) ∧ w'.cell? ⟨gb540, 1, none⟩ = some (.slice (some ad549) l0_1.length c0_1) ∧ w'.cell? (ad550.add ((ji22)).toNat) = some (.int .i64 (rd (rd_L2 l0_1 x19_1) (ji22)))) (ds := []) zB11_0 (by kernel_rfl) rfl rfl ⟨(blk_cell BK540.out 0).trans rfl, (blk_cell BK540.out 1).trans rfl, ((HB.out.cell (World.block_lt_of_cell? w _ hw552_0)).trans hw552_0)⟩ (fun hHeld => ?_); refine with_tabW impl_IsTableau.tab10 impl_IsTableau.bits10 (fun HT_ HW_ => ?_)
                   generalize wr.drew = w31 at HO_549000 HO_549001 BK540 BK548 HB hx552_0 hHeld ⊢
                   refine zP (i := 0) (N := some 31) zB11_1 (zk HT_.out) ?_
                   refine one_ (i := 1) (N := some 32) zB11_2 rfl rfl (one_of HT_.out (by kernel_rfl)) (by decide) (fun K hK => ?_)
                   refine zC Tryz.func37 #[.int .i64 (rd (rd_L2 l0_1 x19_1) x26_2), .int .i64 1, .int .i64 9] ?_
                   with_reducible refine (impl_within.calls (rd (rd_L2 l0_1 x19_1) x26_2) 1 9 true _ A19.out).mono ?_
                   rintro e w' ⟨rfl, ⟨nd, rfl⟩⟩
                   refine ⟨_, rfl, ?_⟩
                   refine hK.out _ _ ⟨(blk_cell BK540.out 0).trans rfl, (blk_cell BK540.out 1).trans rfl, ((HB.out.cell (World.block_lt_of_cell? w _ hw552_0)).trans hw552_0)⟩ (fun hHeld => ?_)
                   clear hK K
                   refine zM (some 32) ?_
                   refine zP (i := 2) (N := some 33) zB11_3 (zk HT_.out) ?_
                   refine zP (i := 3) (N := some 34) zB11_4 (zk HT_.out) ?_
                   refine zP (i := 4) (N := some 35) zB11_5 (zk HT_.out) ?_
                   refine zP (i := 5) (N := some 36) zB11_6 (zk HT_.out) ?_
                   refine zP (i := 6) (N := some 37) zB11_7 (zk HT_.out) ?_
                   refine zP (i := 7) (N := some 38) zB11_8 (zk HT_.out) ?_
                   refine zP (i := 8) (N := some 39) zB11_9 (zk HT_.out) ?_
                   refine zP (i := 9) (N := some 40) zB11_10 (zk HT_.out) ?_
                   refine zP (i := 10) (N := some 41) zB11_11 (zk HT_.out) ?_
                   refine zP (i := 11) (N := some 42) zB11_12 (zk HT_.out) ?_
                   refine zT3 (i := 12) (N := some 43) zB11_13 (take_ofW HT_.out HW_.out (by kernel_rfl)) hHeld ?_
                   refine zP (i := 13) (N := some 44) zB11_14 (zk HT_.out) ?_
                   refine zP (i := 14) (N := some 45) zB11_15 (zk HT_.out) ?_
                   refine zP (i := 15) (N := some 46) zB11_16 (zk HT_.out) ?_
                   refine zP (i := 16) (N := some 47) zB11_17 (zk HT_.out) ?_
                   refine zP (i := 17) (N := some 48) zB11_18 (zk HT_.out) ?_
                   refine zP (i := 18) (N := some 49) zB11_19 (zk HT_.out) ?_
                   refine zP (i := 19) (N := some 50) zB11_20 (zk HT_.out) ?_
                   refine zP (i := 20) (N := some 51) zB11_21 (zk HT_.out) ?_
                   refine zP (i := 22) (N := some 53) zB11_35 (zk HT_.out) ?_
                   refine zP (i := 23) (N := some 54) zB11_36 (zk HT_.out) ?_
                   refine zP (i := 24) (N := some 55) zB11_37 (zk HT_.out) ?_
                   refine zP (i := 26) (N := some 57) zB11_38 (zk HT_.out) ?_
                   refine zP (i := 28) (N := some 59) zB11_39 (zk HT_.out) ?_
                   refine zT3 (i := 21) (N := some 52) zB11_40 (take_ofW HT_.out HW_.out (by kernel_rfl)) hHeld ?_
                   refine zT3 (i := 25) (N := some 56) zB11_41 (take_ofW HT_.out HW_.out (by kernel_rfl)) hHeld ?_
                   refine one_ (i := 27) (N := some 58) zB11_29 rfl rfl (one_of HT_.out (by kernel_rfl)) (by decide) (fun K hK => ?_)
                   refine zC Tryz.func62 #[.slice A0_0 l0_0.length c0_0, .int .i64 x19_1] ?_
                   with_reducible refine (impl_at.calls _ _ l0_0 x19_1 t553 _ ?side1 ?side2 A28.out).mono ?_
                   (case side1 => exact zQ (Kd.C_below HR0_0.out (zB2 HB.out GE540.out GE548.out)))
                   (case side2 => exact HC0_0.out)
                   rintro e w' ⟨rfl, ⟨nd, rfl⟩⟩
                   refine ⟨_, rfl, ?_⟩
                   refine hK.out _ _ ⟨(blk_cell BK540.out 0).trans rfl, (blk_cell BK540.out 1).trans rfl, ((HB.out.cell (World.block_lt_of_cell? w _ hw552_0)).trans hw552_0)⟩ (fun hHeld => ?_)
                   clear hK K
                   refine zM (some 58) ?_
                   refine zP (i := 29) (N := some 60) zB11_30 (zk HT_.out) ?_
                   refine one_ (i := 30) (N := some 61) zB11_31 rfl rfl (one_of HT_.out (by kernel_rfl)) (by decide) (fun K hK => ?_)
                   refine zC Tryz.func61 #[.agg #[.slice A0_0 l0_0.length c0_0, .slice (some ad549) l0_1.length c0_1], .int .i64 (wrap64 (x19_1 - 1)), .int .i64 (wrap64 (t553 + x26_2))] ?_
                   with_reducible refine (impl_Tableau_entry.calls _ _ l0_0 _ _ l0_1 (wrap64 (x19_1 - 1)) (wrap64 (t553 + x26_2)) t554 _ ?side1 ?side2 ?side3 ?side4 A29.out).mono ?_
                   (case side1 => exact zQ (Kd.C_below HR0_0.out (zB2 HB.out GE540.out GE548.out)))
                   (case side2 => exact HC0_0.out)
                   (case side3 => exact zQ (Kd.C_below HR0_1.out (zB2 HB.out GE540.out GE548.out)))
                   (case side4 => exact HC0_1.out)
                   rintro e w32 ⟨rfl, hb⟩
                   refine ⟨_, rfl, ?_⟩
                   have n0_ := Aside0.mk (Kd.R_below (zR HO_549000.out) hb)
                   have n1_ := Aside0.mk (Kd.R_below (zR HO_549001.out) hb)
                   have n2_ := Aside0.mk (blk_below (g := gb540) (o := .cells #[.slice A0_0 l0_0.length c0_0, .slice (some ad549) l0_1.length c0_1] 29 (0, 0)) (zH BK540.out) hb)
                   have n3_ := Aside0.mk (blk_below (g := gb548) (o := .cells #[.slice Ao8 t541.length co8, .slice Ao11 t544.length co11] 74 (0, 0)) (zH BK548.out) hb)
                   have n4_ := Aside0.mk (below_step (zB2 HB.out GE540.out GE548.out) hb)
                   clear HO_549000
                   clear HO_549001
                   clear BK540
                   clear BK548
                   clear HB
                   have HO_549000 := n0_
                   have HO_549001 := n1_
                   have BK540 := n2_
                   have BK548 := n3_
                   have HB := n4_
                   clear n0_ n1_ n2_ n3_ n4_
                   (try clear hb)
                   (try clear hb2)
                   (try clear hk)
                   (try clear hi)
                   refine hK.out _ _ ⟨(blk_cell BK540.out 0).trans rfl, (blk_cell BK540.out 1).trans rfl, ((HB.out.cell (World.block_lt_of_cell? w _ hw552_0)).trans hw552_0)⟩ (fun hHeld => ?_)
                   clear hK K
                   refine zM (some 61) ?_
                   refine zP (i := 31) (N := some 62) zB11_32 (zk HT_.out) ?_
                   refine zP (i := 32) (N := some 63) zB11_33 (zk HT_.out) ?_
                   refine zP (i := 33) (N := some 64) zB11_34 (zk HT_.out) ?_
                   refine done_ (done_of HT_.out (by kernel_rfl)) ?_
                   try go_wp2
                   go_ret
                   exact ⟨by first | rfl | (simp [errW_none, errW_some] <;> rfl) | (simp only [← hji22]; first | rfl | (simp [errW_none, errW_some] <;> rfl)) | (simp [*, errW_none, errW_some] <;> rfl), zB2 HB.out GE540.out GE548.out⟩
                  ·rw [if_neg c30] at H
                   have c30b0 : decide ((rd (rd_L2 l0_1 x19_1) x26_2) ≤ t554) = false := decide_eq_false c30
                   clear c30
                   have H' := Aside0.mk H
                   clear H
                   have p550 : 0 ≤ (x26_2 : Int) := zd
                   have q550 : x26_2 < ((rd_L2 l0_1 x19_1).length : Int) := zd
                   obtain ⟨ad550, e550, hx550_0⟩ := Kd.at_int HR549_0.out x26_2 p550 q550
                   cases e550
                   replace hx550_0 := (HB.out.cell (World.block_lt_of_cell? w _ hx550_0)).trans hx550_0
                   replace p550 := eq_true p550
                   replace q550 := eq_true q550
                   try go_wp2
                   have n0_ := Aside0.mk (Kd.R_drew HO_549000.out)
                   have n1_ := Aside0.mk (Kd.R_drew HO_549001.out)
                   have n2_ := Aside0.mk (blk_drew BK540.out)
                   have n3_ := Aside0.mk (blk_drew BK548.out)
                   have n4_ := Aside0.mk (below_drew1 HB.out)
                   clear HO_549000
                   clear HO_549001
                   clear BK540
                   clear BK548
                   clear HB
                   have HO_549000 := n0_
                   have HO_549001 := n1_
                   have BK540 := n2_
                   have BK548 := n3_
                   have HB := n4_
                   clear n0_ n1_ n2_ n3_ n4_
                   have p552 : 0 ≤ ((ji22) : Int) := zd
                   have q552 : (ji22) < ((rd_L2 l0_1 x19_1).length : Int) := zd
                   obtain ⟨ad552, e552, hx552_0⟩ := Kd.at_int HR549_0.out (ji22) p552 q552
                   have hw552_0 := hx552_0
                   obtain rfl : ad550 = ad552 := (by injection e552)
                   replace hx552_0 := (HB.out.cell (World.block_lt_of_cell? w _ hx552_0)).trans hx552_0
                   replace p552 := eq_true p552
                   replace q552 := eq_true q552
                   refine start_ (n := 34) (S := fun w' => w'.cell? ⟨gb540, 0, none⟩ = some (.slice A0_0 l0_0.length c0_0) ∧ w'.cell? ⟨gb540, 1, none⟩ = some (.slice (some ad549) l0_1.length c0_1) ∧ w'.cell? (ad550.add ((ji22)).toNat) = some (.int .i64 (rd (rd_L2 l0_1 x19_1) (ji22)))) (ds := []) zB11_0 (by kernel_rfl) rfl rfl ⟨(blk_cell BK540.out 0).trans rfl, (blk_cell BK540.out 1).trans rfl, ((HB.out.cell (World.block_lt_of_cell? w _ hw552_0)).trans hw552_0)⟩ (fun hHeld => ?_); refine with_tabW impl_IsTableau.tab10 impl_IsTableau.bits10 (fun HT_ HW_ => ?_)
                   generalize wr.drew = w33 at HO_549000 HO_549001 BK540 BK548 HB hx552_0 hHeld ⊢
                   refine zP (i := 0) (N := some 31) zB11_1 (zk HT_.out) ?_
                   refine one_ (i := 1) (N := some 32) zB11_2 rfl rfl (one_of HT_.out (by kernel_rfl)) (by decide) (fun K hK => ?_)
                   refine zC Tryz.func37 #[.int .i64 (rd (rd_L2 l0_1 x19_1) x26_2), .int .i64 1, .int .i64 9] ?_
                   with_reducible refine (impl_within.calls (rd (rd_L2 l0_1 x19_1) x26_2) 1 9 true _ A19.out).mono ?_
                   rintro e w' ⟨rfl, ⟨nd, rfl⟩⟩
                   refine ⟨_, rfl, ?_⟩
                   refine hK.out _ _ ⟨(blk_cell BK540.out 0).trans rfl, (blk_cell BK540.out 1).trans rfl, ((HB.out.cell (World.block_lt_of_cell? w _ hw552_0)).trans hw552_0)⟩ (fun hHeld => ?_)
                   clear hK K
                   refine zM (some 32) ?_
                   refine zP (i := 2) (N := some 33) zB11_3 (zk HT_.out) ?_
                   refine zP (i := 3) (N := some 34) zB11_4 (zk HT_.out) ?_
                   refine zP (i := 4) (N := some 35) zB11_5 (zk HT_.out) ?_
                   refine zP (i := 5) (N := some 36) zB11_6 (zk HT_.out) ?_
                   refine zP (i := 6) (N := some 37) zB11_7 (zk HT_.out) ?_
                   refine zP (i := 7) (N := some 38) zB11_8 (zk HT_.out) ?_
                   refine zP (i := 8) (N := some 39) zB11_9 (zk HT_.out) ?_
                   refine zP (i := 9) (N := some 40) zB11_10 (zk HT_.out) ?_
                   refine zP (i := 10) (N := some 41) zB11_11 (zk HT_.out) ?_
                   refine zP (i := 11) (N := some 42) zB11_12 (zk HT_.out) ?_
                   refine zT3 (i := 12) (N := some 43) zB11_13 (take_ofW HT_.out HW_.out (by kernel_rfl)) hHeld ?_
                   refine zP (i := 13) (N := some 44) zB11_14 (zk HT_.out) ?_
                   refine zP (i := 14) (N := some 45) zB11_15 (zk HT_.out) ?_
                   refine zP (i := 15) (N := some 46) zB11_16 (zk HT_.out) ?_
                   refine zP (i := 16) (N := some 47) zB11_17 (zk HT_.out) ?_
                   refine zP (i := 17) (N := some 48) zB11_18 (zk HT_.out) ?_
                   refine zP (i := 18) (N := some 49) zB11_19 (zk HT_.out) ?_
                   refine zP (i := 19) (N := some 50) zB11_20 (zk HT_.out) ?_
                   refine zP (i := 20) (N := some 51) zB11_21 (zk HT_.out) ?_
                   refine zP (i := 22) (N := some 53) zB11_35 (zk HT_.out) ?_
                   refine zP (i := 23) (N := some 54) zB11_36 (zk HT_.out) ?_
                   refine zP (i := 24) (N := some 55) zB11_37 (zk HT_.out) ?_
                   refine zP (i := 26) (N := some 57) zB11_38 (zk HT_.out) ?_
                   refine zP (i := 28) (N := some 59) zB11_39 (zk HT_.out) ?_
                   refine zT3 (i := 21) (N := some 52) zB11_40 (take_ofW HT_.out HW_.out (by kernel_rfl)) hHeld ?_
                   refine zT3 (i := 25) (N := some 56) zB11_41 (take_ofW HT_.out HW_.out (by kernel_rfl)) hHeld ?_
                   refine one_ (i := 27) (N := some 58) zB11_29 rfl rfl (one_of HT_.out (by kernel_rfl)) (by decide) (fun K hK => ?_)
                   refine zC Tryz.func62 #[.slice A0_0 l0_0.length c0_0, .int .i64 x19_1] ?_
                   with_reducible refine (impl_at.calls _ _ l0_0 x19_1 t553 _ ?side1 ?side2 A28.out).mono ?_
                   (case side1 => exact zQ (Kd.C_below HR0_0.out (zB2 HB.out GE540.out GE548.out)))
                   (case side2 => exact HC0_0.out)
                   rintro e w' ⟨rfl, ⟨nd, rfl⟩⟩
                   refine ⟨_, rfl, ?_⟩
                   refine hK.out _ _ ⟨(blk_cell BK540.out 0).trans rfl, (blk_cell BK540.out 1).trans rfl, ((HB.out.cell (World.block_lt_of_cell? w _ hw552_0)).trans hw552_0)⟩ (fun hHeld => ?_)
                   clear hK K
                   refine zM (some 58) ?_
                   refine zP (i := 29) (N := some 60) zB11_30 (zk HT_.out) ?_
                   refine one_ (i := 30) (N := some 61) zB11_31 rfl rfl (one_of HT_.out (by kernel_rfl)) (by decide) (fun K hK => ?_)
                   refine zC Tryz.func61 #[.agg #[.slice A0_0 l0_0.length c0_0, .slice (some ad549) l0_1.length c0_1], .int .i64 (wrap64 (x19_1 - 1)), .int .i64 (wrap64 (t553 + x26_2))] ?_
                   with_reducible refine (impl_Tableau_entry.calls _ _ l0_0 _ _ l0_1 (wrap64 (x19_1 - 1)) (wrap64 (t553 + x26_2)) t554 _ ?side1 ?side2 ?side3 ?side4 A29.out).mono ?_
                   (case side1 => exact zQ (Kd.C_below HR0_0.out (zB2 HB.out GE540.out GE548.out)))
                   (case side2 => exact HC0_0.out)
                   (case side3 => exact zQ (Kd.C_below HR0_1.out (zB2 HB.out GE540.out GE548.out)))
                   (case side4 => exact HC0_1.out)
                   rintro e w34 ⟨rfl, hb⟩
                   refine ⟨_, rfl, ?_⟩
                   have n0_ := Aside0.mk (Kd.R_below (zR HO_549000.out) hb)
                   have n1_ := Aside0.mk (Kd.R_below (zR HO_549001.out) hb)
                   have n2_ := Aside0.mk (blk_below (g := gb540) (o := .cells #[.slice A0_0 l0_0.length c0_0, .slice (some ad549) l0_1.length c0_1] 29 (0, 0)) (zH BK540.out) hb)
                   have n3_ := Aside0.mk (blk_below (g := gb548) (o := .cells #[.slice Ao8 t541.length co8, .slice Ao11 t544.length co11] 74 (0, 0)) (zH BK548.out) hb)
                   have n4_ := Aside0.mk (below_step (zB2 HB.out GE540.out GE548.out) hb)
                   clear HO_549000
                   clear HO_549001
                   clear BK540
                   clear BK548
                   clear HB
                   have HO_549000 := n0_
                   have HO_549001 := n1_
                   have BK540 := n2_
                   have BK548 := n3_
                   have HB := n4_
                   clear n0_ n1_ n2_ n3_ n4_
                   (try clear hb)
                   (try clear hb2)
                   (try clear hk)
                   (try clear hi)
                   refine hK.out _ _ ⟨(blk_cell BK540.out 0).trans rfl, (blk_cell BK540.out 1).trans rfl, ((HB.out.cell (World.block_lt_of_cell? w _ hw552_0)).trans hw552_0)⟩ (fun hHeld => ?_)
                   clear hK K
                   refine zM (some 61) ?_
                   refine zP (i := 31) (N := some 62) zB11_32 (zk HT_.out) ?_
                   refine zP (i := 32) (N := some 63) zB11_33 (zk HT_.out) ?_
                   refine zP (i := 33) (N := some 64) zB11_34 (zk HT_.out) ?_
                   refine done_ (done_of HT_.out (by kernel_rfl)) ?_
                   try go_wp2
                   go_roundg k2
                   case measure => have := HK1.out; have := HK2.out; omega
                   case rel => exact ⟨(wrap64 (x26_2 + 1)), zs, H', ⟨by have := HK1.out; have := HK2.out; omega⟩, ⟨zR HO_549000.out⟩, ⟨zR HO_549001.out⟩, ⟨zH BK540.out⟩, ⟨zH BK548.out⟩, ⟨zB2 HB.out GE540.out GE548.out⟩⟩
                 ·rw [if_neg c27] at H
                  have c27b0 : decide (0 < x19_1) = false := decide_eq_false c27
                  clear c27
                  have H' := Aside0.mk H
                  clear H
                  have p550 : 0 ≤ (x26_2 : Int) := zd
                  have q550 : x26_2 < ((rd_L2 l0_1 x19_1).length : Int) := zd
                  obtain ⟨ad550, e550, hx550_0⟩ := Kd.at_int HR549_0.out x26_2 p550 q550
                  cases e550
                  replace hx550_0 := (HB.out.cell (World.block_lt_of_cell? w _ hx550_0)).trans hx550_0
                  replace p550 := eq_true p550
                  replace q550 := eq_true q550
                  try go_wp2
                  have n0_ := Aside0.mk (Kd.R_drew HO_549000.out)
                  have n1_ := Aside0.mk (Kd.R_drew HO_549001.out)
                  have n2_ := Aside0.mk (blk_drew BK540.out)
                  have n3_ := Aside0.mk (blk_drew BK548.out)
                  have n4_ := Aside0.mk (below_drew1 HB.out)
                  clear HO_549000
                  clear HO_549001
                  clear BK540
                  clear BK548
                  clear HB
                  have HO_549000 := n0_
                  have HO_549001 := n1_
                  have BK540 := n2_
                  have BK548 := n3_
                  have HB := n4_
                  clear n0_ n1_ n2_ n3_ n4_
                  have p552 : 0 ≤ ((ji22) : Int) := zd
                  have q552 : (ji22) < ((rd_L2 l0_1 x19_1).length : Int) := zd
                  obtain ⟨ad552, e552, hx552_0⟩ := Kd.at_int HR549_0.out (ji22) p552 q552
                  have hw552_0 := hx552_0
                  obtain rfl : ad550 = ad552 := (by injection e552)
                  replace hx552_0 := (HB.out.cell (World.block_lt_of_cell? w _ hx552_0)).trans hx552_0
                  replace p552 := eq_true p552
                  replace q552 := eq_true q552
                  refine start_ (n := 34) (S := fun w' => w'.cell? (ad550.add ((ji22)).toNat) = some (.int .i64 (rd (rd_L2 l0_1 x19_1) (ji22)))) (ds := []) zB11_0 (by kernel_rfl) rfl rfl (((HB.out.cell (World.block_lt_of_cell? w _ hw552_0)).trans hw552_0)) (fun hHeld => ?_); refine with_tabW impl_IsTableau.tab10 impl_IsTableau.bits10 (fun HT_ HW_ => ?_)
                  generalize wr.drew = w35 at HO_549000 HO_549001 BK540 BK548 HB hx552_0 hHeld ⊢
                  refine zP (i := 0) (N := some 31) zB11_1 (zk HT_.out) ?_
                  refine one_ (i := 1) (N := some 32) zB11_2 rfl rfl (one_of HT_.out (by kernel_rfl)) (by decide) (fun K hK => ?_)
                  refine zC Tryz.func37 #[.int .i64 (rd (rd_L2 l0_1 x19_1) x26_2), .int .i64 1, .int .i64 9] ?_
                  with_reducible refine (impl_within.calls (rd (rd_L2 l0_1 x19_1) x26_2) 1 9 true _ A19.out).mono ?_
                  rintro e w' ⟨rfl, ⟨nd, rfl⟩⟩
                  refine ⟨_, rfl, ?_⟩
                  refine hK.out _ _ (((HB.out.cell (World.block_lt_of_cell? w _ hw552_0)).trans hw552_0)) (fun hHeld => ?_)
                  clear hK K
                  refine zM (some 32) ?_
                  refine zP (i := 2) (N := some 33) zB11_3 (zk HT_.out) ?_
                  refine zP (i := 3) (N := some 34) zB11_4 (zk HT_.out) ?_
                  refine zP (i := 4) (N := some 35) zB11_5 (zk HT_.out) ?_
                  refine zP (i := 5) (N := some 36) zB11_6 (zk HT_.out) ?_
                  refine zP (i := 6) (N := some 37) zB11_7 (zk HT_.out) ?_
                  refine zP (i := 7) (N := some 38) zB11_8 (zk HT_.out) ?_
                  refine zP (i := 8) (N := some 39) zB11_9 (zk HT_.out) ?_
                  refine zP (i := 9) (N := some 40) zB11_10 (zk HT_.out) ?_
                  refine zP (i := 10) (N := some 41) zB11_11 (zk HT_.out) ?_
                  refine zP (i := 11) (N := some 42) zB11_12 (zk HT_.out) ?_
                  refine zT1 (i := 12) (N := some 43) zB11_13 (take_ofW HT_.out HW_.out (by kernel_rfl)) hHeld ?_
                  refine zP (i := 13) (N := some 44) zB11_14 (zk HT_.out) ?_
                  refine zP (i := 14) (N := some 45) zB11_15 (zk HT_.out) ?_
                  refine zP (i := 15) (N := some 46) zB11_16 (zk HT_.out) ?_
                  refine zP (i := 16) (N := some 47) zB11_17 (zk HT_.out) ?_
                  refine zP (i := 17) (N := some 48) zB11_18 (zk HT_.out) ?_
                  refine zP (i := 18) (N := some 49) zB11_19 (zk HT_.out) ?_
                  refine zP (i := 19) (N := some 50) zB11_20 (zk HT_.out) ?_
                  refine zU (i := 20) (N := some 51) zB11_21 (zk HT_.out) ?_
                  refine zU (i := 21) (N := some 52) zB11_22 (zk HT_.out) ?_
                  refine zU (i := 22) (N := some 53) zB11_23 (zk HT_.out) ?_
                  refine zU (i := 23) (N := some 54) zB11_24 (zk HT_.out) ?_
                  refine zU (i := 24) (N := some 55) zB11_25 (zk HT_.out) ?_
                  refine zU (i := 25) (N := some 56) zB11_26 (zk HT_.out) ?_
                  refine zU (i := 26) (N := some 57) zB11_27 (zk HT_.out) ?_
                  refine zU (i := 27) (N := some 58) zB11_28 (zk HT_.out) ?_
                  refine zU (i := 28) (N := some 59) zB11_29 (zk HT_.out) ?_
                  refine zU (i := 29) (N := some 60) zB11_30 (zk HT_.out) ?_
                  refine zU (i := 30) (N := some 61) zB11_31 (zk HT_.out) ?_
                  refine zU (i := 31) (N := some 62) zB11_32 (zk HT_.out) ?_
                  refine zP (i := 32) (N := some 63) zB11_33 (zk HT_.out) ?_
                  refine zP (i := 33) (N := some 64) zB11_34 (zk HT_.out) ?_
                  refine done_ (done_of HT_.out (by kernel_rfl)) ?_
                  try go_wp2
                  go_roundg k2
                  case measure => have := HK1.out; have := HK2.out; omega
                  case rel => exact ⟨(wrap64 (x26_2 + 1)), zs, H', ⟨by have := HK1.out; have := HK2.out; omega⟩, ⟨zR HO_549000.out⟩, ⟨zR HO_549001.out⟩, ⟨zH BK540.out⟩, ⟨zH BK548.out⟩, ⟨zB2 HB.out GE540.out GE548.out⟩⟩
               ·rw [if_neg c24] at H
                exact absurd H (by simp)
              ·rw [if_neg c23] at H
               exact absurd H (by simp)
             ·rw [if_neg c21] at H
              have c21b0 : decide (0 < x26_2) = false := decide_eq_false c21
              clear c21
              by_cases c36 : x19_1 > 0
              ·rw [if_pos c36] at H
               have c36b0 : decide (0 < x19_1) = true := decide_eq_true c36
               clear c36
               replace H := Option.bind_eq_some_iff.mp H
               obtain ⟨t555, A370, H⟩ := H
               replace H : ((impl_Tableau_entry.f l0_0 l0_1 (wrap64 (x19_1 - 1)) (wrap64 (t555 + x26_2))).bind fun t556 => (if (rd (rd_L2 l0_1 x19_1) x26_2) ≤ t556 then (some false) else (impl_IsTableau.l1 k2 x19_1 (rd_L2 l0_1 x19_1) l0_1 (l0_1.length : Int) x19_1 (rd_L2 l0_1 x19_1) ((rd_L2 l0_1 x19_1).length : Int) (wrap64 (x26_2 + 1)) l0_0 l0_1))) = some r := H
               have A37 := Aside0.mk A370
               clear A370
               replace H := Option.bind_eq_some_iff.mp H
               obtain ⟨t556, A380, H⟩ := H
               replace H : (if (rd (rd_L2 l0_1 x19_1) x26_2) ≤ t556 then (some false) else (impl_IsTableau.l1 k2 x19_1 (rd_L2 l0_1 x19_1) l0_1 (l0_1.length : Int) x19_1 (rd_L2 l0_1 x19_1) ((rd_L2 l0_1 x19_1).length : Int) (wrap64 (x26_2 + 1)) l0_0 l0_1)) = some r := H
               have A38 := Aside0.mk A380
               clear A380
               by_cases c39 : (rd (rd_L2 l0_1 x19_1) x26_2) ≤ t556
               ·rw [if_pos c39] at H
                have c39b0 : decide ((rd (rd_L2 l0_1 x19_1) x26_2) ≤ t556) = true := decide_eq_true c39
                clear c39
                obtain rfl := Option.some.inj H
                have p550 : 0 ≤ (x26_2 : Int) := zd
                have q550 : x26_2 < ((rd_L2 l0_1 x19_1).length : Int) := zd
                obtain ⟨ad550, e550, hx550_0⟩ := Kd.at_int HR549_0.out x26_2 p550 q550
                cases e550
                replace hx550_0 := (HB.out.cell (World.block_lt_of_cell? w _ hx550_0)).trans hx550_0
                replace p550 := eq_true p550
                replace q550 := eq_true q550
                try go_wp2
                have n0_ := Aside0.mk (Kd.R_drew HO_549000.out)
                have n1_ := Aside0.mk (Kd.R_drew HO_549001.out)
                have n2_ := Aside0.mk (blk_drew BK540.out)
                have n3_ := Aside0.mk (blk_drew BK548.out)
                have n4_ := Aside0.mk (below_drew1 HB.out)
                clear HO_549000
                clear HO_549001
                clear BK540
                clear BK548
                clear HB
                have HO_549000 := n0_
                have HO_549001 := n1_
                have BK540 := n2_
                have BK548 := n3_
                have HB := n4_
                clear n0_ n1_ n2_ n3_ n4_
                refine start_ (n := 34) (S := fun w' => w'.cell? ⟨gb540, 0, none⟩ = some (.slice A0_0 l0_0.length c0_0) ∧ w'.cell? ⟨gb540, 1, none⟩ = some (.slice (some ad549) l0_1.length c0_1)) (ds := []) zB11_0 (by kernel_rfl) rfl rfl ⟨(blk_cell BK540.out 0).trans rfl, (blk_cell BK540.out 1).trans rfl⟩ (fun hHeld => ?_); refine with_tabW impl_IsTableau.tab10 impl_IsTableau.bits10 (fun HT_ HW_ => ?_)
                generalize wr.drew = w40 at HO_549000 HO_549001 BK540 BK548 HB hHeld ⊢
                refine zP (i := 0) (N := some 31) zB11_1 (zk HT_.out) ?_
                refine one_ (i := 1) (N := some 32) zB11_2 rfl rfl (one_of HT_.out (by kernel_rfl)) (by decide) (fun K hK => ?_)
                refine zC Tryz.func37 #[.int .i64 (rd (rd_L2 l0_1 x19_1) x26_2), .int .i64 1, .int .i64 9] ?_
                with_reducible refine (impl_within.calls (rd (rd_L2 l0_1 x19_1) x26_2) 1 9 true _ A19.out).mono ?_
                rintro e w' ⟨rfl, ⟨nd, rfl⟩⟩
                refine ⟨_, rfl, ?_⟩
                refine hK.out _ _ ⟨(blk_cell BK540.out 0).trans rfl, (blk_cell BK540.out 1).trans rfl⟩ (fun hHeld => ?_)
                clear hK K
                refine zM (some 32) ?_
                refine zP (i := 2) (N := some 33) zB11_3 (zk HT_.out) ?_
                refine zP (i := 3) (N := some 34) zB11_4 (zk HT_.out) ?_
                refine zP (i := 4) (N := some 35) zB11_5 (zk HT_.out) ?_
                refine zP (i := 5) (N := some 36) zB11_6 (zk HT_.out) ?_
                refine zP (i := 6) (N := some 37) zB11_7 (zk HT_.out) ?_
                refine zU (i := 7) (N := some 38) zB11_8 (zk HT_.out) ?_
                refine zU (i := 8) (N := some 39) zB11_9 (zk HT_.out) ?_
                refine zU (i := 9) (N := some 40) zB11_10 (zk HT_.out) ?_
                refine zU (i := 10) (N := some 41) zB11_11 (zk HT_.out) ?_
                refine zU (i := 11) (N := some 42) zB11_12 (zk HT_.out) ?_
                refine zU (i := 12) (N := some 43) zB11_13 (zk HT_.out) ?_
                refine zU (i := 13) (N := some 44) zB11_14 (zk HT_.out) ?_
                refine zP (i := 14) (N := some 45) zB11_15 (zk HT_.out) ?_
                refine zP (i := 15) (N := some 46) zB11_16 (zk HT_.out) ?_
                refine zP (i := 16) (N := some 47) zB11_17 (zk HT_.out) ?_
                refine zP (i := 17) (N := some 48) zB11_18 (zk HT_.out) ?_
                refine zP (i := 18) (N := some 49) zB11_19 (zk HT_.out) ?_
                refine zP (i := 19) (N := some 50) zB11_20 (zk HT_.out) ?_
                refine zP (i := 20) (N := some 51) zB11_21 (zk HT_.out) ?_
                refine zP (i := 22) (N := some 53) zB11_35 (zk HT_.out) ?_
                refine zP (i := 23) (N := some 54) zB11_36 (zk HT_.out) ?_
                refine zP (i := 24) (N := some 55) zB11_37 (zk HT_.out) ?_
                refine zP (i := 26) (N := some 57) zB11_38 (zk HT_.out) ?_
                refine zP (i := 28) (N := some 59) zB11_39 (zk HT_.out) ?_
                refine zT2 (i := 21) (N := some 52) zB11_40 (take_ofW HT_.out HW_.out (by kernel_rfl)) hHeld ?_
                refine zT2 (i := 25) (N := some 56) zB11_41 (take_ofW HT_.out HW_.out (by kernel_rfl)) hHeld ?_
                refine one_ (i := 27) (N := some 58) zB11_29 rfl rfl (one_of HT_.out (by kernel_rfl)) (by decide) (fun K hK => ?_)
                refine zC Tryz.func62 #[.slice A0_0 l0_0.length c0_0, .int .i64 x19_1] ?_
                with_reducible refine (impl_at.calls _ _ l0_0 x19_1 t555 _ ?side1 ?side2 A37.out).mono ?_
                (case side1 => exact zQ (Kd.C_below HR0_0.out (zB2 HB.out GE540.out GE548.out)))
                (case side2 => exact HC0_0.out)
                rintro e w' ⟨rfl, ⟨nd, rfl⟩⟩
                refine ⟨_, rfl, ?_⟩
                refine hK.out _ _ ⟨(blk_cell BK540.out 0).trans rfl, (blk_cell BK540.out 1).trans rfl⟩ (fun hHeld => ?_)
                clear hK K
                refine zM (some 58) ?_
                refine zP (i := 29) (N := some 60) zB11_30 (zk HT_.out) ?_
                refine one_ (i := 30) (N := some 61) zB11_31 rfl rfl (one_of HT_.out (by kernel_rfl)) (by decide) (fun K hK => ?_)
                refine zC Tryz.func61 #[.agg #[.slice A0_0 l0_0.length c0_0, .slice (some ad549) l0_1.length c0_1], .int .i64 (wrap64 (x19_1 - 1)), .int .i64 (wrap64 (t555 + x26_2))] ?_
                with_reducible refine (impl_Tableau_entry.calls _ _ l0_0 _ _ l0_1 (wrap64 (x19_1 - 1)) (wrap64 (t555 + x26_2)) t556 _ ?side1 ?side2 ?side3 ?side4 A38.out).mono ?_
                (case side1 => exact zQ (Kd.C_below HR0_0.out (zB2 HB.out GE540.out GE548.out)))
                (case side2 => exact HC0_0.out)
                (case side3 => exact zQ (Kd.C_below HR0_1.out (zB2 HB.out GE540.out GE548.out)))
                (case side4 => exact HC0_1.out)
                rintro e w41 ⟨rfl, hb⟩
                refine ⟨_, rfl, ?_⟩
                have n0_ := Aside0.mk (Kd.R_below (zR HO_549000.out) hb)
                have n1_ := Aside0.mk (Kd.R_below (zR HO_549001.out) hb)
                have n2_ := Aside0.mk (blk_below (g := gb540) (o := .cells #[.slice A0_0 l0_0.length c0_0, .slice (some ad549) l0_1.length c0_1] 29 (0, 0)) (zH BK540.out) hb)
                have n3_ := Aside0.mk (blk_below (g := gb548) (o := .cells #[.slice Ao8 t541.length co8, .slice Ao11 t544.length co11] 74 (0, 0)) (zH BK548.out) hb)
                have n4_ := Aside0.mk (below_step (zB2 HB.out GE540.out GE548.out) hb)
                clear HO_549000
                clear HO_549001
                clear BK540
                clear BK548
                clear HB
                have HO_549000 := n0_
                have HO_549001 := n1_
                have BK540 := n2_
                have BK548 := n3_
                have HB := n4_
                clear n0_ n1_ n2_ n3_ n4_
                (try clear hb)
                (try clear hb2)
                (try clear hk)
                (try clear hi)
                refine hK.out _ _ ⟨(blk_cell BK540.out 0).trans rfl, (blk_cell BK540.out 1).trans rfl⟩ (fun hHeld => ?_)
                clear hK K
                refine zM (some 61) ?_
                refine zP (i := 31) (N := some 62) zB11_32 (zk HT_.out) ?_
                refine zP (i := 32) (N := some 63) zB11_33 (zk HT_.out) ?_
                refine zP (i := 33) (N := some 64) zB11_34 (zk HT_.out) ?_
                refine done_ (done_of HT_.out (by kernel_rfl)) ?_
                try go_wp2
                go_ret
                exact ⟨zr, zB2 HB.out GE540.out GE548.out⟩
               ·rw [if_neg c39] at H
                have c39b0 : decide ((rd (rd_L2 l0_1 x19_1) x26_2) ≤ t556) = false := decide_eq_false c39
                clear c39
                have H' := Aside0.mk H
                clear H
                have p550 : 0 ≤ (x26_2 : Int) := zd
                have q550 : x26_2 < ((rd_L2 l0_1 x19_1).length : Int) := zd
                obtain ⟨ad550, e550, hx550_0⟩ := Kd.at_int HR549_0.out x26_2 p550 q550
                cases e550
                replace hx550_0 := (HB.out.cell (World.block_lt_of_cell? w _ hx550_0)).trans hx550_0
                replace p550 := eq_true p550
                replace q550 := eq_true q550
                try go_wp2
                have n0_ := Aside0.mk (Kd.R_drew HO_549000.out)
                have n1_ := Aside0.mk (Kd.R_drew HO_549001.out)
                have n2_ := Aside0.mk (blk_drew BK540.out)
                have n3_ := Aside0.mk (blk_drew BK548.out)
                have n4_ := Aside0.mk (below_drew1 HB.out)
                clear HO_549000
                clear HO_549001
                clear BK540
                clear BK548
                clear HB
                have HO_549000 := n0_
                have HO_549001 := n1_
                have BK540 := n2_
                have BK548 := n3_
                have HB := n4_
                clear n0_ n1_ n2_ n3_ n4_
                refine start_ (n := 34) (S := fun w' => w'.cell? ⟨gb540, 0, none⟩ = some (.slice A0_0 l0_0.length c0_0) ∧ w'.cell? ⟨gb540, 1, none⟩ = some (.slice (some ad549) l0_1.length c0_1)) (ds := []) zB11_0 (by kernel_rfl) rfl rfl ⟨(blk_cell BK540.out 0).trans rfl, (blk_cell BK540.out 1).trans rfl⟩ (fun hHeld => ?_); refine with_tabW impl_IsTableau.tab10 impl_IsTableau.bits10 (fun HT_ HW_ => ?_)
                generalize wr.drew = w42 at HO_549000 HO_549001 BK540 BK548 HB hHeld ⊢
                refine zP (i := 0) (N := some 31) zB11_1 (zk HT_.out) ?_
                refine one_ (i := 1) (N := some 32) zB11_2 rfl rfl (one_of HT_.out (by kernel_rfl)) (by decide) (fun K hK => ?_)
                refine zC Tryz.func37 #[.int .i64 (rd (rd_L2 l0_1 x19_1) x26_2), .int .i64 1, .int .i64 9] ?_
                with_reducible refine (impl_within.calls (rd (rd_L2 l0_1 x19_1) x26_2) 1 9 true _ A19.out).mono ?_
                rintro e w' ⟨rfl, ⟨nd, rfl⟩⟩
                refine ⟨_, rfl, ?_⟩
                refine hK.out _ _ ⟨(blk_cell BK540.out 0).trans rfl, (blk_cell BK540.out 1).trans rfl⟩ (fun hHeld => ?_)
                clear hK K
                refine zM (some 32) ?_
                refine zP (i := 2) (N := some 33) zB11_3 (zk HT_.out) ?_
                refine zP (i := 3) (N := some 34) zB11_4 (zk HT_.out) ?_
                refine zP (i := 4) (N := some 35) zB11_5 (zk HT_.out) ?_
                refine zP (i := 5) (N := some 36) zB11_6 (zk HT_.out) ?_
                refine zP (i := 6) (N := some 37) zB11_7 (zk HT_.out) ?_
                refine zU (i := 7) (N := some 38) zB11_8 (zk HT_.out) ?_
                refine zU (i := 8) (N := some 39) zB11_9 (zk HT_.out) ?_
                refine zU (i := 9) (N := some 40) zB11_10 (zk HT_.out) ?_
                refine zU (i := 10) (N := some 41) zB11_11 (zk HT_.out) ?_
                refine zU (i := 11) (N := some 42) zB11_12 (zk HT_.out) ?_
                refine zU (i := 12) (N := some 43) zB11_13 (zk HT_.out) ?_
                refine zU (i := 13) (N := some 44) zB11_14 (zk HT_.out) ?_
                refine zP (i := 14) (N := some 45) zB11_15 (zk HT_.out) ?_
                refine zP (i := 15) (N := some 46) zB11_16 (zk HT_.out) ?_
                refine zP (i := 16) (N := some 47) zB11_17 (zk HT_.out) ?_
                refine zP (i := 17) (N := some 48) zB11_18 (zk HT_.out) ?_
                refine zP (i := 18) (N := some 49) zB11_19 (zk HT_.out) ?_
                refine zP (i := 19) (N := some 50) zB11_20 (zk HT_.out) ?_
                refine zP (i := 20) (N := some 51) zB11_21 (zk HT_.out) ?_
                refine zP (i := 22) (N := some 53) zB11_35 (zk HT_.out) ?_
                refine zP (i := 23) (N := some 54) zB11_36 (zk HT_.out) ?_
                refine zP (i := 24) (N := some 55) zB11_37 (zk HT_.out) ?_
                refine zP (i := 26) (N := some 57) zB11_38 (zk HT_.out) ?_
                refine zP (i := 28) (N := some 59) zB11_39 (zk HT_.out) ?_
                refine zT2 (i := 21) (N := some 52) zB11_40 (take_ofW HT_.out HW_.out (by kernel_rfl)) hHeld ?_
                refine zT2 (i := 25) (N := some 56) zB11_41 (take_ofW HT_.out HW_.out (by kernel_rfl)) hHeld ?_
                refine one_ (i := 27) (N := some 58) zB11_29 rfl rfl (one_of HT_.out (by kernel_rfl)) (by decide) (fun K hK => ?_)
                refine zC Tryz.func62 #[.slice A0_0 l0_0.length c0_0, .int .i64 x19_1] ?_
                with_reducible refine (impl_at.calls _ _ l0_0 x19_1 t555 _ ?side1 ?side2 A37.out).mono ?_
                (case side1 => exact zQ (Kd.C_below HR0_0.out (zB2 HB.out GE540.out GE548.out)))
                (case side2 => exact HC0_0.out)
                rintro e w' ⟨rfl, ⟨nd, rfl⟩⟩
                refine ⟨_, rfl, ?_⟩
                refine hK.out _ _ ⟨(blk_cell BK540.out 0).trans rfl, (blk_cell BK540.out 1).trans rfl⟩ (fun hHeld => ?_)
                clear hK K
                refine zM (some 58) ?_
                refine zP (i := 29) (N := some 60) zB11_30 (zk HT_.out) ?_
                refine one_ (i := 30) (N := some 61) zB11_31 rfl rfl (one_of HT_.out (by kernel_rfl)) (by decide) (fun K hK => ?_)
                refine zC Tryz.func61 #[.agg #[.slice A0_0 l0_0.length c0_0, .slice (some ad549) l0_1.length c0_1], .int .i64 (wrap64 (x19_1 - 1)), .int .i64 (wrap64 (t555 + x26_2))] ?_
                with_reducible refine (impl_Tableau_entry.calls _ _ l0_0 _ _ l0_1 (wrap64 (x19_1 - 1)) (wrap64 (t555 + x26_2)) t556 _ ?side1 ?side2 ?side3 ?side4 A38.out).mono ?_
                (case side1 => exact zQ (Kd.C_below HR0_0.out (zB2 HB.out GE540.out GE548.out)))
                (case side2 => exact HC0_0.out)
                (case side3 => exact zQ (Kd.C_below HR0_1.out (zB2 HB.out GE540.out GE548.out)))
                (case side4 => exact HC0_1.out)
                rintro e w43 ⟨rfl, hb⟩
                refine ⟨_, rfl, ?_⟩
                have n0_ := Aside0.mk (Kd.R_below (zR HO_549000.out) hb)
                have n1_ := Aside0.mk (Kd.R_below (zR HO_549001.out) hb)
                have n2_ := Aside0.mk (blk_below (g := gb540) (o := .cells #[.slice A0_0 l0_0.length c0_0, .slice (some ad549) l0_1.length c0_1] 29 (0, 0)) (zH BK540.out) hb)
                have n3_ := Aside0.mk (blk_below (g := gb548) (o := .cells #[.slice Ao8 t541.length co8, .slice Ao11 t544.length co11] 74 (0, 0)) (zH BK548.out) hb)
                have n4_ := Aside0.mk (below_step (zB2 HB.out GE540.out GE548.out) hb)
                clear HO_549000
                clear HO_549001
                clear BK540
                clear BK548
                clear HB
                have HO_549000 := n0_
                have HO_549001 := n1_
                have BK540 := n2_
                have BK548 := n3_
                have HB := n4_
                clear n0_ n1_ n2_ n3_ n4_
                (try clear hb)
                (try clear hb2)
                (try clear hk)
                (try clear hi)
                refine hK.out _ _ ⟨(blk_cell BK540.out 0).trans rfl, (blk_cell BK540.out 1).trans rfl⟩ (fun hHeld => ?_)
                clear hK K
                refine zM (some 61) ?_
                refine zP (i := 31) (N := some 62) zB11_32 (zk HT_.out) ?_
                refine zP (i := 32) (N := some 63) zB11_33 (zk HT_.out) ?_
                refine zP (i := 33) (N := some 64) zB11_34 (zk HT_.out) ?_
                refine done_ (done_of HT_.out (by kernel_rfl)) ?_
                try go_wp2
                go_roundg k2
                case measure => have := HK1.out; have := HK2.out; omega
                case rel => exact ⟨(wrap64 (x26_2 + 1)), zs, H', ⟨by have := HK1.out; have := HK2.out; omega⟩, ⟨zR HO_549000.out⟩, ⟨zR HO_549001.out⟩, ⟨zH BK540.out⟩, ⟨zH BK548.out⟩, ⟨zB2 HB.out GE540.out GE548.out⟩⟩
              ·rw [if_neg c36] at H
               have c36b0 : decide (0 < x19_1) = false := decide_eq_false c36
               clear c36
               have H' := Aside0.mk H
               clear H
               have p550 : 0 ≤ (x26_2 : Int) := zd
               have q550 : x26_2 < ((rd_L2 l0_1 x19_1).length : Int) := zd
               obtain ⟨ad550, e550, hx550_0⟩ := Kd.at_int HR549_0.out x26_2 p550 q550
               cases e550
               replace hx550_0 := (HB.out.cell (World.block_lt_of_cell? w _ hx550_0)).trans hx550_0
               replace p550 := eq_true p550
               replace q550 := eq_true q550
               try go_wp2
               have n0_ := Aside0.mk (Kd.R_drew HO_549000.out)
               have n1_ := Aside0.mk (Kd.R_drew HO_549001.out)
               have n2_ := Aside0.mk (blk_drew BK540.out)
               have n3_ := Aside0.mk (blk_drew BK548.out)
               have n4_ := Aside0.mk (below_drew1 HB.out)
               clear HO_549000
               clear HO_549001
               clear BK540
               clear BK548
               clear HB
               have HO_549000 := n0_
               have HO_549001 := n1_
               have BK540 := n2_
               have BK548 := n3_
               have HB := n4_
               clear n0_ n1_ n2_ n3_ n4_
               refine start_ (n := 34) (S := fun w' => True) (ds := []) zB11_0 (by kernel_rfl) rfl rfl trivial (fun hHeld => ?_); refine with_tabW impl_IsTableau.tab10 impl_IsTableau.bits10 (fun HT_ HW_ => ?_)
               generalize wr.drew = w44 at HO_549000 HO_549001 BK540 BK548 HB hHeld ⊢
               refine zP (i := 0) (N := some 31) zB11_1 (zk HT_.out) ?_
               refine one_ (i := 1) (N := some 32) zB11_2 rfl rfl (one_of HT_.out (by kernel_rfl)) (by decide) (fun K hK => ?_)
               refine zC Tryz.func37 #[.int .i64 (rd (rd_L2 l0_1 x19_1) x26_2), .int .i64 1, .int .i64 9] ?_
               with_reducible refine (impl_within.calls (rd (rd_L2 l0_1 x19_1) x26_2) 1 9 true _ A19.out).mono ?_
               rintro e w' ⟨rfl, ⟨nd, rfl⟩⟩
               refine ⟨_, rfl, ?_⟩
               refine hK.out _ _ trivial (fun hHeld => ?_)
               clear hK K
               refine zM (some 32) ?_
               refine zP (i := 2) (N := some 33) zB11_3 (zk HT_.out) ?_
               refine zP (i := 3) (N := some 34) zB11_4 (zk HT_.out) ?_
               refine zP (i := 4) (N := some 35) zB11_5 (zk HT_.out) ?_
               refine zP (i := 5) (N := some 36) zB11_6 (zk HT_.out) ?_
               refine zP (i := 6) (N := some 37) zB11_7 (zk HT_.out) ?_
               refine zU (i := 7) (N := some 38) zB11_8 (zk HT_.out) ?_
               refine zU (i := 8) (N := some 39) zB11_9 (zk HT_.out) ?_
               refine zU (i := 9) (N := some 40) zB11_10 (zk HT_.out) ?_
               refine zU (i := 10) (N := some 41) zB11_11 (zk HT_.out) ?_
               refine zU (i := 11) (N := some 42) zB11_12 (zk HT_.out) ?_
               refine zU (i := 12) (N := some 43) zB11_13 (zk HT_.out) ?_
               refine zU (i := 13) (N := some 44) zB11_14 (zk HT_.out) ?_
               refine zP (i := 14) (N := some 45) zB11_15 (zk HT_.out) ?_
               refine zP (i := 15) (N := some 46) zB11_16 (zk HT_.out) ?_
               refine zP (i := 16) (N := some 47) zB11_17 (zk HT_.out) ?_
               refine zP (i := 17) (N := some 48) zB11_18 (zk HT_.out) ?_
               refine zP (i := 18) (N := some 49) zB11_19 (zk HT_.out) ?_
               refine zP (i := 19) (N := some 50) zB11_20 (zk HT_.out) ?_
               refine zU (i := 20) (N := some 51) zB11_21 (zk HT_.out) ?_
               refine zU (i := 21) (N := some 52) zB11_22 (zk HT_.out) ?_
               refine zU (i := 22) (N := some 53) zB11_23 (zk HT_.out) ?_
               refine zU (i := 23) (N := some 54) zB11_24 (zk HT_.out) ?_
               refine zU (i := 24) (N := some 55) zB11_25 (zk HT_.out) ?_
               refine zU (i := 25) (N := some 56) zB11_26 (zk HT_.out) ?_
               refine zU (i := 26) (N := some 57) zB11_27 (zk HT_.out) ?_
               refine zU (i := 27) (N := some 58) zB11_28 (zk HT_.out) ?_
               refine zU (i := 28) (N := some 59) zB11_29 (zk HT_.out) ?_
               refine zU (i := 29) (N := some 60) zB11_30 (zk HT_.out) ?_
               refine zU (i := 30) (N := some 61) zB11_31 (zk HT_.out) ?_
               refine zU (i := 31) (N := some 62) zB11_32 (zk HT_.out) ?_
               refine zP (i := 32) (N := some 63) zB11_33 (zk HT_.out) ?_
               refine zP (i := 33) (N := some 64) zB11_34 (zk HT_.out) ?_
               refine done_ (done_of HT_.out (by kernel_rfl)) ?_
               try go_wp2
               go_roundg k2
               case measure => have := HK1.out; have := HK2.out; omega
               case rel => exact ⟨(wrap64 (x26_2 + 1)), zs, H', ⟨by have := HK1.out; have := HK2.out; omega⟩, ⟨zR HO_549000.out⟩, ⟨zR HO_549001.out⟩, ⟨zH BK540.out⟩, ⟨zH BK548.out⟩, ⟨zB2 HB.out GE540.out GE548.out⟩⟩
            ·replace c20 := Bool.eq_false_iff.mpr c20
             subst c20
             have H1 : (some false) = some r := by rw [if_neg (show ¬ (false = true) by decide)] at H; exact H
             clear H
             have H := H1
             clear H1
             obtain rfl := Option.some.inj H
             have p550 : 0 ≤ (x26_2 : Int) := zd
             have q550 : x26_2 < ((rd_L2 l0_1 x19_1).length : Int) := zd
             obtain ⟨ad550, e550, hx550_0⟩ := Kd.at_int HR549_0.out x26_2 p550 q550
             cases e550
             replace hx550_0 := (HB.out.cell (World.block_lt_of_cell? w _ hx550_0)).trans hx550_0
             replace p550 := eq_true p550
             replace q550 := eq_true q550
             try go_wp2
             have n0_ := Aside0.mk (Kd.R_drew HO_549000.out)
             have n1_ := Aside0.mk (Kd.R_drew HO_549001.out)
             have n2_ := Aside0.mk (blk_drew BK540.out)
             have n3_ := Aside0.mk (blk_drew BK548.out)
             have n4_ := Aside0.mk (below_drew1 HB.out)
             clear HO_549000
             clear HO_549001
             clear BK540
             clear BK548
             clear HB
             have HO_549000 := n0_
             have HO_549001 := n1_
             have BK540 := n2_
             have BK548 := n3_
             have HB := n4_
             clear n0_ n1_ n2_ n3_ n4_
             refine start_ (n := 34) (S := fun w' => True) (ds := []) zB11_0 (by kernel_rfl) rfl rfl trivial (fun hHeld => ?_); refine with_tabW impl_IsTableau.tab10 impl_IsTableau.bits10 (fun HT_ HW_ => ?_)
             generalize wr.drew = w45 at HO_549000 HO_549001 BK540 BK548 HB hHeld ⊢
             refine zP (i := 0) (N := some 31) zB11_1 (zk HT_.out) ?_
             refine one_ (i := 1) (N := some 32) zB11_2 rfl rfl (one_of HT_.out (by kernel_rfl)) (by decide) (fun K hK => ?_)
             refine zC Tryz.func37 #[.int .i64 (rd (rd_L2 l0_1 x19_1) x26_2), .int .i64 1, .int .i64 9] ?_
             with_reducible refine (impl_within.calls (rd (rd_L2 l0_1 x19_1) x26_2) 1 9 false _ A19.out).mono ?_
             rintro e w' ⟨rfl, ⟨nd, rfl⟩⟩
             refine ⟨_, rfl, ?_⟩
             refine hK.out _ _ trivial (fun hHeld => ?_)
             clear hK K
             refine zM (some 32) ?_
             refine zP (i := 2) (N := some 33) zB11_3 (zk HT_.out) ?_
             refine zP (i := 3) (N := some 34) zB11_4 (zk HT_.out) ?_
             refine zU (i := 4) (N := some 35) zB11_5 (zk HT_.out) ?_
             refine zU (i := 5) (N := some 36) zB11_6 (zk HT_.out) ?_
             refine zU (i := 6) (N := some 37) zB11_7 (zk HT_.out) ?_
             refine zU (i := 7) (N := some 38) zB11_8 (zk HT_.out) ?_
             refine zU (i := 8) (N := some 39) zB11_9 (zk HT_.out) ?_
             refine zU (i := 9) (N := some 40) zB11_10 (zk HT_.out) ?_
             refine zU (i := 10) (N := some 41) zB11_11 (zk HT_.out) ?_
             refine zU (i := 11) (N := some 42) zB11_12 (zk HT_.out) ?_
             refine zU (i := 12) (N := some 43) zB11_13 (zk HT_.out) ?_
             refine zU (i := 13) (N := some 44) zB11_14 (zk HT_.out) ?_
             refine zU (i := 14) (N := some 45) zB11_15 (zk HT_.out) ?_
             refine zP (i := 15) (N := some 46) zB11_16 (zk HT_.out) ?_
             refine zP (i := 16) (N := some 47) zB11_17 (zk HT_.out) ?_
             refine zU (i := 17) (N := some 48) zB11_18 (zk HT_.out) ?_
             refine zU (i := 18) (N := some 49) zB11_19 (zk HT_.out) ?_
             refine zU (i := 19) (N := some 50) zB11_20 (zk HT_.out) ?_
             refine zU (i := 20) (N := some 51) zB11_21 (zk HT_.out) ?_
             refine zU (i := 21) (N := some 52) zB11_22 (zk HT_.out) ?_
             refine zU (i := 22) (N := some 53) zB11_23 (zk HT_.out) ?_
             refine zU (i := 23) (N := some 54) zB11_24 (zk HT_.out) ?_
             refine zU (i := 24) (N := some 55) zB11_25 (zk HT_.out) ?_
             refine zU (i := 25) (N := some 56) zB11_26 (zk HT_.out) ?_
             refine zU (i := 26) (N := some 57) zB11_27 (zk HT_.out) ?_
             refine zU (i := 27) (N := some 58) zB11_28 (zk HT_.out) ?_
             refine zU (i := 28) (N := some 59) zB11_29 (zk HT_.out) ?_
             refine zU (i := 29) (N := some 60) zB11_30 (zk HT_.out) ?_
             refine zU (i := 30) (N := some 61) zB11_31 (zk HT_.out) ?_
             refine zU (i := 31) (N := some 62) zB11_32 (zk HT_.out) ?_
             refine zU (i := 32) (N := some 63) zB11_33 (zk HT_.out) ?_
             refine zP (i := 33) (N := some 64) zB11_34 (zk HT_.out) ?_
             refine done_ (done_of HT_.out (by kernel_rfl)) ?_
             try go_wp2
             go_ret
             exact ⟨zr, zB2 HB.out GE540.out GE548.out⟩
           ·rw [if_neg c18] at H
            exact absurd H (by simp)
          ·rw [if_neg c17] at H
           exact absurd H (by simp)
         ·rw [if_neg c16] at H
          have c16b0 : decide (x26_2 < ((rd_L2 l0_1 x19_1).length : Int)) = false := decide_eq_false c16
          clear c16
          have H' := Aside0.mk H
          clear H
          go_wp2
          go_roundg k2
          case measure => have := HK1.out; have := HK2.out; omega
          case rel => exact ⟨(wrap64 (x19_1 + 1)), zs, H', ⟨by have := HK1.out; have := HK2.out; omega⟩, ⟨zR HO_549000.out⟩, ⟨zR HO_549001.out⟩, ⟨zH BK540.out⟩, ⟨zH BK548.out⟩, ⟨zB2 HB.out GE540.out GE548.out⟩⟩
      ·rw [if_neg c15] at H
       exact absurd H (by simp)
     ·rw [if_neg c14] at H
      exact absurd H (by simp)
    ·rw [if_neg c13] at H
     have c13b0 : decide (x19_1 < (l0_1.length : Int)) = false := decide_eq_false c13
     clear c13
     obtain rfl := Option.some.inj H
     go_wp2
     go_ret
     exact ⟨zr, zB2 HB.out GE540.out GE548.out⟩
 ·replace c3 := Bool.eq_false_iff.mpr c3
  subst c3
  have H1 : (some false) = some r := by rw [if_neg (show ¬ (false = true) by decide)] at H; exact H
  clear H
  have H := H1
  clear H1
  obtain rfl := Option.some.inj H
  go_enter Tryz.func44, Tryz.ntmps44
  go_wp2_with (first | ((with_reducible refine gate_dst (N := 1) rfl ?_); refine zX (N := 1) (cs := #[.slice A0_0 l0_0.length c0_0, .slice A0_1 l0_1.length c0_1]) (t := 29) ?_; intro gb540 hg w46 hbox hb; have n0_ := Aside0.mk (below_step (zB HB.out) hb); have n1_ := Aside0.mk (hbox); have n2_ := Aside0.mk ((by rw [hg]; exact (below_size (zB HB.out)) : w.heap.size ≤ gb540)); have n3_ := Aside0.mk ((by rw [hg]; exact (below_size (zB HB.out)) : w.heap.size ≤ gb540)); clear HB; have HB := n0_; have BK540 := n1_; have GW540 := n2_; have GE540 := n3_; clear n0_ n1_ n2_ n3_; clear hb hbox hg; have hcz47_0 : w46.cell? ⟨gb540, 0, none⟩ = some (.slice A0_0 l0_0.length c0_0) := (blk_cell BK540.out 0).trans rfl; have hcz47_1 : w46.cell? ⟨gb540, 1, none⟩ = some (.slice A0_1 l0_1.length c0_1) := (blk_cell BK540.out 1).trans rfl; have hfz47_0 := blk_frozen BK540.out 0; have hfz47_1 := blk_frozen BK540.out 1) | ((with_reducible refine gate_callee (f := 60) rfl ?_); refine zG (some 11) Tryz.func60 #[.agg #[.slice A0_0 l0_0.length c0_0, .slice A0_1 l0_1.length c0_1]] ?_; (with_reducible refine (impl_ShapeOf.calls k _ _ l0_0 _ _ l0_1 t541 t544 false _ ?side1 ?side2 ?side3 ?side4 A2.out).mono ?_); (case side1 => exact zQ (Kd.C_below HR0_0.out HB.out)); (case side2 => exact HC0_0.out); (case side3 => exact zQ (Kd.C_below HR0_1.out HB.out)); (case side4 => exact HC0_1.out); rintro e w48 ⟨v542, v545, rfl, ho0, ho1, hb⟩; refine ⟨_, rfl, ?_⟩; have n0_ := Aside0.mk (Kd.R_lower ho0 (below_size (zB1 HB.out GE540.out))); have n1_ := Aside0.mk (Kd.R_lower ho1 (below_size (zB1 HB.out GE540.out))); have n2_ := Aside0.mk (blk_below (g := gb540) (o := .cells #[.slice A0_0 l0_0.length c0_0, .slice A0_1 l0_1.length c0_1] 29 (0, 0)) (zH BK540.out) hb); have n3_ := Aside0.mk (below_step (zB1 HB.out GE540.out) hb); clear BK540; clear HB; have HO543 := n0_; have HO546 := n1_; have BK540 := n2_; have HB := n3_; clear n0_ n1_ n2_ n3_; (try clear hb); (try clear hb2); (try clear hk); (try clear hi); (try clear ho0); (try clear ho1)) | ((with_reducible refine gate_dst (N := 3) rfl ?_); refine zX (N := 3) (cs := #[.slice none 0 0, .slice none 0 0]) (t := 74) ?_; intro gb548 hg w49 hbox hb; have n0_ := Aside0.mk (Kd.R_below (zR HO543.out) hb); have n1_ := Aside0.mk (Kd.R_below (zR HO546.out) hb); have n2_ := Aside0.mk (blk_below (g := gb540) (o := .cells #[.slice A0_0 l0_0.length c0_0, .slice A0_1 l0_1.length c0_1] 29 (0, 0)) (zH BK540.out) hb); have n3_ := Aside0.mk (below_step (zB1 HB.out GE540.out) hb); have n4_ := Aside0.mk (hbox); have n5_ := Aside0.mk ((by rw [hg]; exact (below_size (zB1 HB.out GE540.out)) : w.heap.size ≤ gb548)); have n6_ := Aside0.mk ((by rw [hg]; exact (below_size (zB1 HB.out GE540.out)) : w.heap.size ≤ gb548)); have n7_ := Aside0.mk ((by rw [hg]; exact Nat.ne_of_lt (blk_lt (g := gb540) (o := .cells #[.slice A0_0 l0_0.length c0_0, .slice A0_1 l0_1.length c0_1] 29 (0, 0)) (zH BK540.out)) : gb540 ≠ gb548)); have n8_ := Aside0.mk ((by rw [hg]; exact Nat.ne_of_gt (blk_lt (g := gb540) (o := .cells #[.slice A0_0 l0_0.length c0_0, .slice A0_1 l0_1.length c0_1] 29 (0, 0)) (zH BK540.out)) : gb548 ≠ gb540)); clear HO543; clear HO546; clear BK540; clear HB; have HO543 := n0_; have HO546 := n1_; have BK540 := n2_; have HB := n3_; have BK548 := n4_; have GW548 := n5_; have GE548 := n6_; have NB540_548 := n7_; have NB548_540 := n8_; clear n0_ n1_ n2_ n3_ n4_ n5_ n6_ n7_ n8_; clear hb hbox hg; obtain ⟨Ao50, co50, eo50⟩ := Kd.R_slice HO543.out; subst eo50; have hnb51 := NB548_540.out; have hnc51 := NB540_548.out; have hcz52_0 : w49.cell? ⟨gb548, 0, none⟩ = some (.slice none 0 0) := (blk_cell BK548.out 0).trans rfl; have hcz52_1 : w49.cell? ⟨gb548, 1, none⟩ = some (.slice none 0 0) := (blk_cell BK548.out 1).trans rfl; have hfz52_0 := blk_frozen BK548.out 0; have hfz52_1 := blk_frozen BK548.out 1; obtain ⟨Ao53, co53, eo53⟩ := Kd.R_slice HO546.out; subst eo53))
  go_ret
  exact ⟨zr, zB2 HB.out GE540.out GE548.out⟩

end Go.Proofs.YtpandocpclecgaaGreatDoor.F
