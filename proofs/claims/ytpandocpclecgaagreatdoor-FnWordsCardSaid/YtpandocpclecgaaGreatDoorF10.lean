/- For each Go function named below: the plain Lean function that it computes, and that its call returns just that; conditions: those that each theorem names. -/
import Derived.Test.YtpandocpclecgaaGreatDoorF0
import Derived.Test.YtpandocpclecgaaGreatDoorF2
import Derived.Test.YtpandocpclecgaaGreatDoorF9
namespace Go.Proofs.YtpandocpclecgaaGreatDoor.F
open Go.RowKit Go.Proofs.YtpandocpclecgaaGreatDoorW.PrintWords Go.Proofs.YtpandocpclecgaaGreatDoorW.PrintLast Go.Proofs.YtpandocpclecgaaGreatDoorW.PrintMore
attribute [local go_sem] max2_int min2_int max_two min_two max_three min_three max_four min_four   -- for this text's walks alone
set_option linter.unusedVariables false
set_option linter.unusedSimpArgs false

mutual
def impl_IsInside.j0 : Nat → List Int → List Int → Bool → Option (Bool)
 | 0, _, _, _ => none
 | k + 1, x0, x1, x14 => if x14 = true then (some false) else (impl_IsInside.l0 k x1 x0 (x0.length : Int) 0)
def impl_IsInside.l0 : Nat → List Int → List Int → Int → Int → Option (Bool)
 | 0, _, _, _, _ => none
 | k + 1, x1, x15, x16, x17 => if x17 < x16 then (if 0 ≤ x17 then (if x17 < (x15.length : Int) then ((impl_at.f x1 x17).bind fun t519 => (if (rd x15 x17) > t519 then (some false) else (impl_IsInside.l0 k x1 x15 x16 (wrap64 (x17 + 1))))) else (none)) else (none)) else (some true)
end
def impl_IsInside.f (k : Nat) (l0 : List Int) (l1 : List Int) : Option (Bool) := (impl_IsPartition.f k l0).bind fun t516 => (if t516 = true then ((impl_IsPartition.f k l1).bind fun t517 => (impl_IsInside.j0 k l0 l1 (!t517))) else (impl_IsInside.j0 k l0 l1 true))
set_option maxHeartbeats 8000000 in
set_option maxRecDepth 100000 in
theorem impl_IsInside.calls (k : Nat) (A0 : Option Addr) (c0 : Nat) (l0 : List Int) (A1 : Option Addr) (c1 : Nat) (l1 : List Int) (r : Bool) (w : World) (hr0 : Kd.C (Kd.int .i64) w A0 l0.length l0) (hc0 : l0.length ≤ c0) (hr1 : Kd.C (Kd.int .i64) w A1 l1.length l1) (hc1 : l1.length ≤ c1) (h : impl_IsInside.f k l0 l1 = some r) :
  Calls Tryz.prog 81 #[.slice A0 l0.length c0, .slice A1 l1.length c1] w fun e w' => e = .returned (.bool r) ∧ Drawn0 w w' := by
 have HR0 := Aside0.mk hr0
 have HC0 := Aside0.mk hc0
 clear hr0 hc0
 have HR1 := Aside0.mk hr1
 have HC1 := Aside0.mk hc1
 clear hr1 hc1
 have H : ((impl_IsPartition.f k l0).bind fun t516 => (if t516 = true then ((impl_IsPartition.f k l1).bind fun t517 => (impl_IsInside.j0 k l0 l1 (!t517))) else (impl_IsInside.j0 k l0 l1 true))) = some r := h
 clear h
 have HC3 := Aside0.mk H
 clear H
 go_enter Tryz.func81, Tryz.ntmps81
 go_upto_region 1 with (fail)
 go_cut [14] (fun v14 wc => ∃ (kq : Nat) (x14_2 : Bool), v14 = .bool x14_2 ∧ Aside0 (impl_IsInside.j0 kq l0 l1 x14_2 = some r) ∧ Aside0 (kq ≤ k) ∧ Drawn0 w wc)
 case first =>
  have H := HC3.out
  clear HC3
  replace H := Option.bind_eq_some_iff.mp H
  obtain ⟨t516, A40, H⟩ := H
  replace H : (if t516 = true then ((impl_IsPartition.f k l1).bind fun t517 => (impl_IsInside.j0 k l0 l1 (!t517))) else (impl_IsInside.j0 k l0 l1 true)) = some r := H
  have A4 := Aside0.mk A40
  clear A40
  by_cases c5 : t516 = true
  ·subst c5
   have H1 : ((impl_IsPartition.f k l1).bind fun t517 => (impl_IsInside.j0 k l0 l1 (!t517))) = some r := by rw [if_pos rfl] at H; exact H
   clear H
   have H := H1
   clear H1
   replace H := Option.bind_eq_some_iff.mp H
   obtain ⟨t517, A60, H⟩ := H
   replace H : (impl_IsInside.j0 k l0 l1 (!t517)) = some r := H
   have A6 := Aside0.mk A60
   clear A60
   have H' := Aside0.mk H
   clear H
   go_wp2_with (first | ((with_reducible refine gate_callee (f := 73) rfl ?_); refine zG (some 8) Tryz.func73 #[.slice A0 l0.length c0] ?_; (with_reducible refine (impl_IsPartition.calls k _ _ l0 true _ ?side1 ?side2 A4.out).mono ?_); (case side1 => exact zQ HR0.out); (case side2 => exact HC0.out); rintro e w' ⟨rfl, ⟨nd, rfl⟩⟩; refine ⟨_, rfl, ?_⟩) | (go_at_call 73; (with_reducible refine (impl_IsPartition.calls k _ _ l1 t517 _ ?side1 ?side2 A6.out).mono ?_); (case side1 => exact zQ HR1.out); (case side2 => exact HC1.out); rintro e w' ⟨rfl, ⟨nd, rfl⟩⟩))
   go_meet
   case rel => exact ⟨_, (!t517), zs, H', ⟨by first | omega | exact Nat.le_refl _⟩, zE⟩
  ·replace c5 := Bool.eq_false_iff.mpr c5
   subst c5
   have H1 : (impl_IsInside.j0 k l0 l1 true) = some r := by rw [if_neg (show ¬ (false = true) by decide)] at H; exact H
   clear H
   have H := H1
   clear H1
   have H' := Aside0.mk H
   clear H
   go_wp2_with (first | ((with_reducible refine gate_callee (f := 73) rfl ?_); refine zG (some 8) Tryz.func73 #[.slice A0 l0.length c0] ?_; (with_reducible refine (impl_IsPartition.calls k _ _ l0 false _ ?side1 ?side2 A4.out).mono ?_); (case side1 => exact zQ HR0.out); (case side2 => exact HC0.out); rintro e w' ⟨rfl, ⟨nd, rfl⟩⟩; refine ⟨_, rfl, ?_⟩))
   go_meet
   case rel => exact ⟨_, (true), zs, H', ⟨by first | omega | exact Nat.le_refl _⟩, zE⟩
 case rest =>
  clear HC3
  try clear c1
  try clear p2
  try clear c5
  obtain ⟨kq, x14_2, rfl, HA, HJ2, ⟨mc2, rfl⟩⟩ := hcut
  cases kq with
  | zero => exact absurd HA.out (by simp [impl_IsInside.j0])
  | succ kj2 =>
   have H := HA.out
   clear HA
   simp only [impl_IsInside.j0] at H
   by_cases c7 : x14_2 = true
   ·subst c7
    have H1 : (some false) = some r := by rw [if_pos rfl] at H; exact H
    clear H
    have H := H1
    clear H1
    obtain rfl := Option.some.inj H
    go_wp2
    go_ret
    exact ⟨zs, zE⟩
   ·replace c7 := Bool.eq_false_iff.mpr c7
    subst c7
    have H1 : (impl_IsInside.l0 kj2 l1 l0 (l0.length : Int) 0) = some r := by rw [if_neg (show ¬ (false = true) by decide)] at H; exact H
    clear H
    have H := H1
    clear H1
    have H' := Aside0.mk H
    clear H
    go_wp2
    go_loopg [17] kj2 (fun kq v17 w' => ∃ (x17_2 : Int), v17 = .int .i64 x17_2 ∧ Aside0 (impl_IsInside.l0 kq l1 l0 (l0.length : Int) x17_2 = some r) ∧ Aside0 (kq ≤ kj2) ∧ Drawn0 w w')
    case atStart => exact ⟨(0), zs, H', ⟨Nat.le_refl _⟩, zE⟩
    case round =>
     clear H'
     try clear c1
     try clear c2
     try clear p2
     try clear c5
     try clear c7
     try clear p2
     obtain ⟨x17_2, rfl, HA, HK2, ⟨m2, rfl⟩⟩ := hrel
     cases gk with
     | zero => exact absurd HA.out (by simp [impl_IsInside.l0])
     | succ k2 =>
      have H := HA.out
      clear HA
      simp only [impl_IsInside.l0] at H
      by_cases c8 : x17_2 < (l0.length : Int)
      ·rw [if_pos c8] at H
       have c8b0 : decide (x17_2 < (l0.length : Int)) = true := decide_eq_true c8
       clear c8
       by_cases c9 : 0 ≤ x17_2
       ·rw [if_pos c9] at H
        have c9b0 : decide (0 ≤ x17_2) = true := decide_eq_true c9
        clear c9
        by_cases c10 : x17_2 < (l0.length : Int)
        ·rw [if_pos c10] at H
         have c10b0 : decide (x17_2 < (l0.length : Int)) = true := decide_eq_true c10
         clear c10
         replace H := Option.bind_eq_some_iff.mp H
         obtain ⟨t519, A110, H⟩ := H
         replace H : (if (rd l0 x17_2) > t519 then (some false) else (impl_IsInside.l0 k2 l1 l0 (l0.length : Int) (wrap64 (x17_2 + 1)))) = some r := H
         have A11 := Aside0.mk A110
         clear A110
         by_cases c12 : (rd l0 x17_2) > t519
         ·rw [if_pos c12] at H
          have c12b0 : decide (t519 < (rd l0 x17_2)) = true := decide_eq_true c12
          clear c12
          obtain rfl := Option.some.inj H
          have p518 : 0 ≤ (x17_2 : Int) := zd
          have q518 : x17_2 < (l0.length : Int) := zd
          obtain ⟨ad518, e518, hx518_0⟩ := Kd.at_int HR0.out x17_2 p518 q518
          cases e518
          replace p518 := eq_true p518
          replace q518 := eq_true q518
          go_wp2_with (first | ((with_reducible refine gate_callee (f := 62) rfl ?_); refine zG (some 25) Tryz.func62 #[.slice A1 l1.length c1, .int .i64 x17_2] ?_; (with_reducible refine (impl_at.calls _ _ l1 x17_2 t519 _ ?side1 ?side2 A11.out).mono ?_); (case side1 => exact zQ HR1.out); (case side2 => exact HC1.out); rintro e w' ⟨rfl, ⟨nd, rfl⟩⟩; refine ⟨_, rfl, ?_⟩))
          go_ret
          exact ⟨zs, zE⟩
         ·rw [if_neg c12] at H
          have c12b0 : decide (t519 < (rd l0 x17_2)) = false := decide_eq_false c12
          clear c12
          have H' := Aside0.mk H
          clear H
          have p518 : 0 ≤ (x17_2 : Int) := zd
          have q518 : x17_2 < (l0.length : Int) := zd
          obtain ⟨ad518, e518, hx518_0⟩ := Kd.at_int HR0.out x17_2 p518 q518
          cases e518
          replace p518 := eq_true p518
          replace q518 := eq_true q518
          go_wp2_with (first | ((with_reducible refine gate_callee (f := 62) rfl ?_); refine zG (some 25) Tryz.func62 #[.slice A1 l1.length c1, .int .i64 x17_2] ?_; (with_reducible refine (impl_at.calls _ _ l1 x17_2 t519 _ ?side1 ?side2 A11.out).mono ?_); (case side1 => exact zQ HR1.out); (case side2 => exact HC1.out); rintro e w' ⟨rfl, ⟨nd, rfl⟩⟩; refine ⟨_, rfl, ?_⟩))
          go_roundg k2
          case measure => have := HJ2.out; have := HK2.out; omega
          case rel => exact ⟨(wrap64 (x17_2 + 1)), zs, H', ⟨by have := HJ2.out; have := HK2.out; omega⟩, zE⟩
        ·rw [if_neg c10] at H
         exact absurd H (by simp)
       ·rw [if_neg c9] at H
        exact absurd H (by simp)
      ·rw [if_neg c8] at H
       have c8b0 : decide (x17_2 < (l0.length : Int)) = false := decide_eq_false c8
       clear c8
       obtain rfl := Option.some.inj H
       go_wp2
       go_ret
       exact ⟨zs, zE⟩

def impl_IsShape.f (k : Nat) (l0_0 : List Int) (l0_1 : List Int) : Option (Bool) := (impl_IsInside.f k l0_1 l0_0).bind fun t521 => (some t521)
set_option maxHeartbeats 8000000 in
set_option maxRecDepth 100000 in
theorem impl_IsShape.calls (k : Nat) (A0_0 : Option Addr) (c0_0 : Nat) (l0_0 : List Int) (A0_1 : Option Addr) (c0_1 : Nat) (l0_1 : List Int) (r : Bool) (w : World) (hr0_0 : Kd.C (Kd.int .i64) w A0_0 l0_0.length l0_0) (hc0_0 : l0_0.length ≤ c0_0) (hr0_1 : Kd.C (Kd.int .i64) w A0_1 l0_1.length l0_1) (hc0_1 : l0_1.length ≤ c0_1) (h : impl_IsShape.f k l0_0 l0_1 = some r) :
  Calls Tryz.prog 74 #[.agg #[.slice A0_0 l0_0.length c0_0, .slice A0_1 l0_1.length c0_1]] w fun e w' => e = .returned (.bool r) ∧ Below w.heap.size w w' := by
 have hu74 := Tryz.underlying74
 have HR0_0 := Aside0.mk hr0_0
 have HC0_0 := Aside0.mk hc0_0
 clear hr0_0 hc0_0
 have HR0_1 := Aside0.mk hr0_1
 have HC0_1 := Aside0.mk hc0_1
 clear hr0_1 hc0_1
 have HB := Aside0.mk (Below.refl w.heap.size w)
 have H : ((impl_IsInside.f k l0_1 l0_0).bind fun t521 => (some t521)) = some r := h
 clear h
 replace H := Option.bind_eq_some_iff.mp H
 obtain ⟨t521, A20, H⟩ := H
 replace H : (some t521) = some r := H
 have A2 := Aside0.mk A20
 clear A20
 obtain rfl := Option.some.inj H
 go_enter Tryz.func74, Tryz.ntmps74
 go_wp2_with (first | ((with_reducible refine gate_dst (N := 1) rfl ?_); refine zX (N := 1) (cs := #[.slice A0_0 l0_0.length c0_0, .slice A0_1 l0_1.length c0_1]) (t := 74) ?_; intro gb520 hg w3 hbox hb; have n0_ := Aside0.mk (below_step (zB HB.out) hb); have n1_ := Aside0.mk (hbox); have n2_ := Aside0.mk ((by rw [hg]; exact (below_size (zB HB.out)) : w.heap.size ≤ gb520)); have n3_ := Aside0.mk ((by rw [hg]; exact (below_size (zB HB.out)) : w.heap.size ≤ gb520)); clear HB; have HB := n0_; have BK520 := n1_; have GW520 := n2_; have GE520 := n3_; clear n0_ n1_ n2_ n3_; clear hb hbox hg; have hcz4_0 : w3.cell? ⟨gb520, 0, none⟩ = some (.slice A0_0 l0_0.length c0_0) := (blk_cell BK520.out 0).trans rfl; have hcz4_1 : w3.cell? ⟨gb520, 1, none⟩ = some (.slice A0_1 l0_1.length c0_1) := (blk_cell BK520.out 1).trans rfl; have hfz4_0 := blk_frozen BK520.out 0; have hfz4_1 := blk_frozen BK520.out 1) | ((with_reducible refine gate_callee (f := 81) rfl ?_); refine zG (some 7) Tryz.func81 #[.slice A0_1 l0_1.length c0_1, .slice A0_0 l0_0.length c0_0] ?_; (with_reducible refine (impl_IsInside.calls k _ _ l0_1 _ _ l0_0 t521 _ ?side1 ?side2 ?side3 ?side4 A2.out).mono ?_); (case side1 => exact zQ (Kd.C_below HR0_1.out HB.out)); (case side2 => exact HC0_1.out); (case side3 => exact zQ (Kd.C_below HR0_0.out HB.out)); (case side4 => exact HC0_0.out); rintro e w' ⟨rfl, ⟨nd, rfl⟩⟩; refine ⟨_, rfl, ?_⟩))
 go_ret
 exact ⟨zr, zB1 HB.out GE520.out⟩

mutual
def impl_ShapeOf.j0 : Nat → Bool → List Int → List (List Int) → Option (List Int × List Int × Bool)
 | 0, _, _, _ => none
 | k + 1, x19, x523000, x523001 => if x19 = true then (some (([] : List Int), ([] : List Int), false)) else ((slices_Clone_int_int.f x523000).bind fun t525 => (impl_ShapeOf.l0 k x523001 (x523001.length : Int) 0 x523000 x523001 ([] : List Int) t525))
def impl_ShapeOf.l0 : Nat → List (List Int) → Int → Int → List Int → List (List Int) → List Int → List Int → Option (List Int × List Int × Bool)
 | 0, _, _, _, _, _, _, _ => none
 | k + 1, x26, x27, x28, x523000, x523001, x529000, x529001 => if x28 < x27 then (if 0 ≤ x28 then (if x28 < (x26.length : Int) then ((impl_at.f x523000 x28).bind fun t530 => (if x529000.length < 17592186044416 then (impl_ShapeOf.l0 k x26 x27 (wrap64 (x28 + 1)) x523000 x523001 (x529000 ++ [wrap64 (t530 + ((rd_L2 x26 x28).length : Int))]) x529001) else (none))) else (none)) else (none)) else ((impl_IsShape.f k x529000 x529001).bind fun t534 => (if t534 = true then (some (x529000, x529001, true)) else (some (([] : List Int), ([] : List Int), false))))
end
def impl_ShapeOf.f (k : Nat) (l0_0 : List Int) (l0_1 : List (List Int)) : Option (List Int × List Int × Bool) := (impl_IsPartition.f k l0_0).bind fun t524 => (if t524 = true then (impl_ShapeOf.j0 k (decide ((l0_0.length : Int) > (l0_1.length : Int))) l0_0 l0_1) else (impl_ShapeOf.j0 k true l0_0 l0_1))
def impl_ShapeOf.T7 : Bool × List (List Nat × List Nat) := (true, [([], []), ([0], [0]), ([], []), ([2], [2]), ([], []), ([3, 4], [3, 4]), ([], []), ([6], [6]), ([5, 7], [5, 7]), ([8], [8]), ([1, 9, 5], [1, 9]), ([0, 1, 2, 3, 4, 5, 6, 7, 8, 9, 10], []), ([11, 10, 10, 0, 1, 2, 3, 4, 5, 6, 7, 8, 9, 10], [10, 11])])
def impl_ShapeOf.B7 : List Nat := [0, 1, 0, 4, 0, 28, 0, 64, 252, 508, 1023, 2047, 4095]
theorem impl_ShapeOf.tab7 : rtab .any (opsOf Tryz.f60 7) = impl_ShapeOf.T7 := by kernel_rfl
theorem impl_ShapeOf.bits7 : waitsOk impl_ShapeOf.T7.2 impl_ShapeOf.B7 = true := by kernel_rfl
set_option maxHeartbeats 8000000 in
set_option maxRecDepth 100000 in
theorem impl_ShapeOf.calls (k : Nat) (A0_0 : Option Addr) (c0_0 : Nat) (l0_0 : List Int) (A0_1 : Option Addr) (c0_1 : Nat) (l0_1 : List (List Int)) (r1 : List Int) (r2 : List Int) (r3 : Bool) (w : World) (hr0_0 : Kd.C (Kd.int .i64) w A0_0 l0_0.length l0_0) (hc0_0 : l0_0.length ≤ c0_0) (hr0_1 : Kd.C (Kd.slice 3 (Kd.int .i64)) w A0_1 l0_1.length l0_1) (hc0_1 : l0_1.length ≤ c0_1) (h : impl_ShapeOf.f k l0_0 l0_1 = some (r1, r2, r3)) :
  Calls Tryz.prog 60 #[.agg #[.slice A0_0 l0_0.length c0_0, .slice A0_1 l0_1.length c0_1]] w fun e w' => ∃ v0_ v1_ : Value, e = .returned (.tuple #[.agg #[v0_, v1_], .bool r3]) ∧ Kd.R (Kd.int .i64) 3 w' w.heap.size (fun k_ => some k_ ≠ (v1_ : Value).ownBlock) v0_ r1 ∧ Kd.R (Kd.int .i64) 3 w' w.heap.size (fun k_ => some k_ ≠ (v0_ : Value).ownBlock) v1_ r2 ∧ Below w.heap.size w w' := by
 have hu29 := Tryz.underlying29
 have hu74 := Tryz.underlying74
 have HR0_0 := Aside0.mk hr0_0
 have HC0_0 := Aside0.mk hc0_0
 clear hr0_0 hc0_0
 have HR0_1 := Aside0.mk hr0_1
 have HC0_1 := Aside0.mk hc0_1
 clear hr0_1 hc0_1
 have HB := Aside0.mk (Below.refl w.heap.size w)
 have H : ((impl_IsPartition.f k l0_0).bind fun t524 => (if t524 = true then (impl_ShapeOf.j0 k (decide ((l0_0.length : Int) > (l0_1.length : Int))) l0_0 l0_1) else (impl_ShapeOf.j0 k true l0_0 l0_1))) = some (r1, r2, r3) := h
 clear h
 have HC2 := Aside0.mk H
 clear H
 go_enter Tryz.func60, Tryz.ntmps60
 go_upto_region 1 with (first | ((with_reducible refine gate_dst (N := 1) rfl ?_); (try (refine gate_guard (by rfl) ?_; dsimp only)); refine zX (N := 1) (cs := #[.slice A0_0 l0_0.length c0_0, .slice A0_1 l0_1.length c0_1]) (t := 29) ?_; intro gb522 hg w3 hbox hb; have n0_ := Aside0.mk (below_step (zB HB.out) hb); have n1_ := Aside0.mk (hbox); have n2_ := Aside0.mk ((by rw [hg]; exact (below_size (zB HB.out)) : w.heap.size ≤ gb522)); have n3_ := Aside0.mk ((by rw [hg]; exact (below_size (zB HB.out)) : w.heap.size ≤ gb522)); clear HB; have HB := n0_; have BK522 := n1_; have GW522 := n2_; have GE522 := n3_; clear n0_ n1_ n2_ n3_; clear hb hbox hg) | ((with_reducible refine gate_dst (N := 2) rfl ?_); (try (refine gate_guard (by rfl) ?_; dsimp only)); refine zX (N := 2) (cs := #[.slice none 0 0, .slice none 0 0]) (t := 74) ?_; intro gb523 hg w4 hbox hb; have n0_ := Aside0.mk (blk_below (g := gb522) (o := .cells #[.slice A0_0 l0_0.length c0_0, .slice A0_1 l0_1.length c0_1] 29 (0, 0)) (zH BK522.out) hb); have n1_ := Aside0.mk (below_step (zB1 HB.out GE522.out) hb); have n2_ := Aside0.mk (hbox); have n3_ := Aside0.mk ((by rw [hg]; exact (below_size (zB1 HB.out GE522.out)) : w.heap.size ≤ gb523)); have n4_ := Aside0.mk ((by rw [hg]; exact (below_size (zB1 HB.out GE522.out)) : w.heap.size ≤ gb523)); have n5_ := Aside0.mk ((by rw [hg]; exact Nat.ne_of_lt (blk_lt (g := gb522) (o := .cells #[.slice A0_0 l0_0.length c0_0, .slice A0_1 l0_1.length c0_1] 29 (0, 0)) (zH BK522.out)) : gb522 ≠ gb523)); have n6_ := Aside0.mk ((by rw [hg]; exact Nat.ne_of_gt (blk_lt (g := gb522) (o := .cells #[.slice A0_0 l0_0.length c0_0, .slice A0_1 l0_1.length c0_1] 29 (0, 0)) (zH BK522.out)) : gb523 ≠ gb522)); clear BK522; clear HB; have BK522 := n0_; have HB := n1_; have BK523 := n2_; have GW523 := n3_; have GE523 := n4_; have NB522_523 := n5_; have NB523_522 := n6_; clear n0_ n1_ n2_ n3_ n4_ n5_ n6_; clear hb hbox hg))
 (try simp only [Act.put, List.setIfInBounds_toArray, List.set_cons_zero, List.set_cons_succ])
 go_cut [19] (fun v19 wc => ∃ (kq : Nat) (x19_1 : Bool), v19 = .bool x19_1 ∧ Aside0 (impl_ShapeOf.j0 kq x19_1 l0_0 l0_1 = some (r1, r2, r3)) ∧ Aside0 (kq ≤ k) ∧ Aside0 (wc.heap[gb522]? = some (.cells #[(.slice A0_0 l0_0.length c0_0), (.slice A0_1 l0_1.length c0_1)] 29 (0, 0))) ∧ Aside0 (wc.heap[gb523]? = some (.cells #[(.slice none 0 0), (.slice none 0 0)] 74 (0, 0))) ∧ Aside0 (Below w.heap.size w wc))
 case first =>
  have H := HC2.out
  clear HC2
  replace H := Option.bind_eq_some_iff.mp H
  obtain ⟨t524, A50, H⟩ := H
  replace H : (if t524 = true then (impl_ShapeOf.j0 k (decide ((l0_0.length : Int) > (l0_1.length : Int))) l0_0 l0_1) else (impl_ShapeOf.j0 k true l0_0 l0_1)) = some (r1, r2, r3) := H
  have A5 := Aside0.mk A50
  clear A50
  by_cases c6 : t524 = true
  ·subst c6
   have H1 : (impl_ShapeOf.j0 k (decide ((l0_0.length : Int) > (l0_1.length : Int))) l0_0 l0_1) = some (r1, r2, r3) := by rw [if_pos rfl] at H; exact H
   clear H
   have H := H1
   clear H1
   have H' := Aside0.mk H
   clear H
   have hnb7 := NB522_523.out
   have hnc7 := NB523_522.out
   have hcz8_0 : w4.cell? ⟨gb522, 0, none⟩ = some (.slice A0_0 l0_0.length c0_0) := (blk_cell BK522.out 0).trans rfl
   have hcz8_1 : w4.cell? ⟨gb522, 1, none⟩ = some (.slice A0_1 l0_1.length c0_1) := (blk_cell BK522.out 1).trans rfl
   have hfz8_0 := blk_frozen BK522.out 0
   have hfz8_1 := blk_frozen BK522.out 1
   go_wp2_with (first | ((with_reducible refine gate_callee (f := 73) rfl ?_); refine zG (some 9) Tryz.func73 #[.slice A0_0 l0_0.length c0_0] ?_; (with_reducible refine (impl_IsPartition.calls k _ _ l0_0 true _ ?side1 ?side2 A5.out).mono ?_); (case side1 => exact zQ (Kd.C_below HR0_0.out HB.out)); (case side2 => exact HC0_0.out); rintro e w' ⟨rfl, ⟨nd, rfl⟩⟩; refine ⟨_, rfl, ?_⟩))
   go_meet
   case rel => exact ⟨_, (decide ((l0_0.length : Int) > (l0_1.length : Int))), zs, H', ⟨by first | omega | exact Nat.le_refl _⟩, ⟨zH BK522.out⟩, ⟨zH BK523.out⟩, ⟨zB2 HB.out GE522.out GE523.out⟩⟩
  ·replace c6 := Bool.eq_false_iff.mpr c6
   subst c6
   have H1 : (impl_ShapeOf.j0 k true l0_0 l0_1) = some (r1, r2, r3) := by rw [if_neg (show ¬ (false = true) by decide)] at H; exact H
   clear H
   have H := H1
   clear H1
   have H' := Aside0.mk H
   clear H
   have hnb9 := NB522_523.out
   have hnc9 := NB523_522.out
   have hcz10_0 : w4.cell? ⟨gb522, 0, none⟩ = some (.slice A0_0 l0_0.length c0_0) := (blk_cell BK522.out 0).trans rfl
   have hcz10_1 : w4.cell? ⟨gb522, 1, none⟩ = some (.slice A0_1 l0_1.length c0_1) := (blk_cell BK522.out 1).trans rfl
   have hfz10_0 := blk_frozen BK522.out 0
   have hfz10_1 := blk_frozen BK522.out 1
   go_wp2_with (first | ((with_reducible refine gate_callee (f := 73) rfl ?_); refine zG (some 9) Tryz.func73 #[.slice A0_0 l0_0.length c0_0] ?_; (with_reducible refine (impl_IsPartition.calls k _ _ l0_0 false _ ?side1 ?side2 A5.out).mono ?_); (case side1 => exact zQ (Kd.C_below HR0_0.out HB.out)); (case side2 => exact HC0_0.out); rintro e w' ⟨rfl, ⟨nd, rfl⟩⟩; refine ⟨_, rfl, ?_⟩))
   go_meet
   case rel => exact ⟨_, (true), zs, H', ⟨by first | omega | exact Nat.le_refl _⟩, ⟨zH BK522.out⟩, ⟨zH BK523.out⟩, ⟨zB2 HB.out GE522.out GE523.out⟩⟩
 case rest =>
  clear HC2
  try clear p2
  try clear c6
  try clear c7
  try clear c9
  try clear hcz10_0
  try clear hcz10_1
  try clear hcz8_0
  try clear hcz8_1
  try clear hfz10_0
  try clear hfz10_1
  try clear hfz8_0
  try clear hfz8_1
  obtain ⟨kq, x19_1, rfl, HA, HJ1, BK522, BK523, HB⟩ := hcut
  cases kq with
  | zero => exact absurd HA.out (by simp [impl_ShapeOf.j0])
  | succ kj1 =>
   have H := HA.out
   clear HA
   simp only [impl_ShapeOf.j0] at H
   by_cases c11 : x19_1 = true
   ·subst c11
    have H1 : (some (([] : List Int), ([] : List Int), false)) = some (r1, r2, r3) := by rw [if_pos rfl] at H; exact H
    clear H
    have H := H1
    clear H1
    simp only [Option.some.injEq, Prod.mk.injEq] at H
    obtain ⟨rfl, rfl, rfl⟩ := H
    have hnb12 := NB523_522.out
    have hnc12 := NB522_523.out
    have hcz13_0 : wc.cell? ⟨gb523, 0, none⟩ = some (.slice none 0 0) := (blk_cell BK523.out 0).trans rfl
    have hcz13_1 : wc.cell? ⟨gb523, 1, none⟩ = some (.slice none 0 0) := (blk_cell BK523.out 1).trans rfl
    have hfz13_0 := blk_frozen BK523.out 0
    have hfz13_1 := blk_frozen BK523.out 1
    go_wp2
    refine bodyPost_ret (results_ct rfl _ _ gb523 74 #[.slice none 0 0, .slice none 0 0] (0, 0) _ rfl (by (with_reducible repeat (first | refine blk_drewN ?_ _ | refine blk_drew ?_ | refine blk_alloc ?_ _)); refine blk_put (cs := #[.slice none 0 0, .slice none 0 0]) ?_ 1 _ rfl; (with_reducible repeat (first | refine blk_drewN ?_ _ | refine blk_drew ?_ | refine blk_alloc ?_ _)); refine blk_put (cs := #[.slice none 0 0, .slice none 0 0]) ?_ 0 _ rfl; (with_reducible repeat (first | refine blk_drewN ?_ _ | refine blk_drew ?_ | refine blk_alloc ?_ _)); exact BK523.out) Tryz.underlying74 rfl (by kernel_rfl)) rfl ?_
    exact ⟨_, _, zr, by first | exact Kd.R_nil _ _ _ _ _ | exact Kd.N_nil _ _ _ _ _ | exact Kd.V_nil _ _ _ _ _ | exact Kd.Q_nil _ _ _ _ _ | exact Kd.S_nil _ _ _ _ _, by first | exact Kd.R_nil _ _ _ _ _ | exact Kd.N_nil _ _ _ _ _ | exact Kd.V_nil _ _ _ _ _ | exact Kd.Q_nil _ _ _ _ _ | exact Kd.S_nil _ _ _ _ _, zB2 HB.out GE522.out GE523.out⟩
   ·replace c11 := Bool.eq_false_iff.mpr c11
    subst c11
    have H1 : ((slices_Clone_int_int.f l0_0).bind fun t525 => (impl_ShapeOf.l0 kj1 l0_1 (l0_1.length : Int) 0 l0_0 l0_1 ([] : List Int) t525)) = some (r1, r2, r3) := by rw [if_neg (show ¬ (false = true) by decide)] at H; exact H
    clear H
    have H := H1
    clear H1
    replace H := Option.bind_eq_some_iff.mp H
    obtain ⟨t525, A140, H⟩ := H
    replace H : (impl_ShapeOf.l0 kj1 l0_1 (l0_1.length : Int) 0 l0_0 l0_1 ([] : List Int) t525) = some (r1, r2, r3) := H
    have A14 := Aside0.mk A140
    clear A140
    have H' := Aside0.mk H
    clear H
    have hnb15 := NB522_523.out
    have hnc15 := NB523_522.out
    have hcz16_0 : wc.cell? ⟨gb522, 0, none⟩ = some (.slice A0_0 l0_0.length c0_0) := (blk_cell BK522.out 0).trans rfl
    have hcz16_1 : wc.cell? ⟨gb522, 1, none⟩ = some (.slice A0_1 l0_1.length c0_1) := (blk_cell BK522.out 1).trans rfl
    have hfz16_0 := blk_frozen BK522.out 0
    have hfz16_1 := blk_frozen BK522.out 1
    go_wp2_with (first | ((with_reducible refine gate_callee (f := 49) rfl ?_); refine zG (some 23) Tryz.func49 #[.slice A0_0 l0_0.length c0_0] ?_; (with_reducible refine (slices_Clone_int_int.calls _ _ l0_0 t525 _ ?side1 ?side2 A14.out).mono ?_); (case side1 => exact zQ (Kd.C_below HR0_0.out HB.out)); (case side2 => exact HC0_0.out); rintro e w17 ⟨v526, rfl, ho0, hb⟩; refine ⟨_, rfl, ?_⟩; have n0_ := Aside0.mk (Kd.R_lower ho0 (below_size (zB2 HB.out GE522.out GE523.out))); have n1_ := Aside0.mk (blk_below (g := gb522) (o := .cells #[.slice A0_0 l0_0.length c0_0, .slice A0_1 l0_1.length c0_1] 29 (0, 0)) (zH BK522.out) hb); have n2_ := Aside0.mk (blk_below (g := gb523) (o := .cells #[.slice none 0 0, .slice none 0 0] 74 (0, 0)) (zH BK523.out) hb); have n3_ := Aside0.mk (below_step (zB2 HB.out GE522.out GE523.out) hb); clear BK522; clear BK523; clear HB; have HO527 := n0_; have BK522 := n1_; have BK523 := n2_; have HB := n3_; clear n0_ n1_ n2_ n3_; (try clear hb); (try clear hb2); (try clear hk); (try clear hi); (try clear ho0); obtain ⟨Ao18, co18, eo18⟩ := Kd.R_slice HO527.out; subst eo18) | ((with_reducible refine gate_dst (N := 4) rfl ?_); (try (refine gate_guard (by rfl) ?_; dsimp only)); refine zX (N := 4) (cs := #[.slice none 0 0, .slice none 0 0]) (t := 74) ?_; intro gb528 hg w19 hbox hb; have n0_ := Aside0.mk (Kd.R_below (zR HO527.out) hb); have n1_ := Aside0.mk (blk_below (g := gb522) (o := .cells #[.slice A0_0 l0_0.length c0_0, .slice A0_1 l0_1.length c0_1] 29 (0, 0)) (zH BK522.out) hb); have n2_ := Aside0.mk (blk_below (g := gb523) (o := .cells #[.slice none 0 0, .slice none 0 0] 74 (0, 0)) (zH BK523.out) hb); have n3_ := Aside0.mk (below_step (zB2 HB.out GE522.out GE523.out) hb); have n4_ := Aside0.mk (hbox); have n5_ := Aside0.mk ((by rw [hg]; exact (below_size (zB2 HB.out GE522.out GE523.out)) : w.heap.size ≤ gb528)); have n6_ := Aside0.mk ((by rw [hg]; exact (below_size (zB2 HB.out GE522.out GE523.out)) : w.heap.size ≤ gb528)); have n7_ := Aside0.mk ((by rw [hg]; exact Nat.ne_of_lt (blk_lt (g := gb522) (o := .cells #[.slice A0_0 l0_0.length c0_0, .slice A0_1 l0_1.length c0_1] 29 (0, 0)) (zH BK522.out)) : gb522 ≠ gb528)); have n8_ := Aside0.mk ((by rw [hg]; exact Nat.ne_of_gt (blk_lt (g := gb522) (o := .cells #[.slice A0_0 l0_0.length c0_0, .slice A0_1 l0_1.length c0_1] 29 (0, 0)) (zH BK522.out)) : gb528 ≠ gb522)); have n9_ := Aside0.mk ((by rw [hg]; exact Nat.ne_of_lt (blk_lt (g := gb523) (o := .cells #[.slice none 0 0, .slice none 0 0] 74 (0, 0)) (zH BK523.out)) : gb523 ≠ gb528)); have n10_ := Aside0.mk ((by rw [hg]; exact Nat.ne_of_gt (blk_lt (g := gb523) (o := .cells #[.slice none 0 0, .slice none 0 0] 74 (0, 0)) (zH BK523.out)) : gb528 ≠ gb523)); clear HO527; clear BK522; clear BK523; clear HB; have HO527 := n0_; have BK522 := n1_; have BK523 := n2_; have HB := n3_; have BK528 := n4_; have GW528 := n5_; have GE528 := n6_; have NB522_528 := n7_; have NB528_522 := n8_; have NB523_528 := n9_; have NB528_523 := n10_; clear n0_ n1_ n2_ n3_ n4_ n5_ n6_ n7_ n8_ n9_ n10_; clear hb hbox hg; have hnb20 := NB528_522.out; have hnc20 := NB522_528.out; have hnb21 := NB528_523.out; have hnc21 := NB523_528.out; have hcz22_0 : w19.cell? ⟨gb528, 0, none⟩ = some (.slice none 0 0) := (blk_cell BK528.out 0).trans rfl; have hcz22_1 : w19.cell? ⟨gb528, 1, none⟩ = some (.slice none 0 0) := (blk_cell BK528.out 1).trans rfl; have hfz22_0 := blk_frozen BK528.out 0; have hfz22_1 := blk_frozen BK528.out 1; have hcz23_0 : w19.cell? ⟨gb522, 0, none⟩ = some (.slice A0_0 l0_0.length c0_0) := (blk_cell BK522.out 0).trans rfl; have hcz23_1 : w19.cell? ⟨gb522, 1, none⟩ = some (.slice A0_1 l0_1.length c0_1) := (blk_cell BK522.out 1).trans rfl; have hfz23_0 := blk_frozen BK522.out 0; have hfz23_1 := blk_frozen BK522.out 1))
    go_loopg [28] kj1 (fun kq v28 w' => ∃ (x28_2 : Int) (x529000_2 : List Int) (u529000 : Value), v28 = .int .i64 x28_2 ∧ Aside0 (impl_ShapeOf.l0 kq l0_1 (l0_1.length : Int) x28_2 l0_0 l0_1 x529000_2 t525 = some (r1, r2, r3)) ∧ Aside0 (kq ≤ kj1) ∧ Aside0 (Kd.R (Kd.int .i64) 3 w' w.heap.size (fun k_ => some k_ ≠ ((.slice Ao18 t525.length co18) : Value).ownBlock) u529000 x529000_2) ∧ Aside0 (Kd.R (Kd.int .i64) 3 w' w.heap.size (fun k_ => some k_ ≠ (u529000 : Value).ownBlock) (.slice Ao18 t525.length co18) t525) ∧ Aside0 (w'.heap[gb522]? = some (.cells #[(.slice A0_0 l0_0.length c0_0), (.slice A0_1 l0_1.length c0_1)] 29 (0, 0))) ∧ Aside0 (w'.heap[gb523]? = some (.cells #[(.slice none 0 0), (.slice none 0 0)] 74 (0, 0))) ∧ Aside0 (w'.heap[gb528]? = some (.cells #[u529000, (.slice Ao18 t525.length co18)] 74 (0, 0))) ∧ Aside0 (Below w.heap.size w w'))
    case atStart => exact ⟨(0), (([] : List Int)), (.slice none 0 0), zs, H', ⟨Nat.le_refl _⟩, ⟨by first | exact Kd.R_nil _ _ _ _ _ | exact Kd.N_nil _ _ _ _ _ | exact Kd.V_nil _ _ _ _ _ | exact Kd.Q_nil _ _ _ _ _ | exact Kd.S_nil _ _ _ _ _⟩, ⟨zR (Kd.R_mono (Kd.R_far (p := ⟨gb528, 1, none⟩) (Kd.R_far (p := ⟨gb528, 0, none⟩) (Kd.R_types HO527.out BK528.out (by decide)) (fun _ hk => hk.2) (.slice none 0 0)) (fun _ hk => hk.2) (.slice Ao18 t525.length co18)) (fun _ hk => (by simp [Value.ownBlock])))⟩, ⟨by (with_reducible repeat (first | refine blk_drewN ?_ _ | refine blk_drew ?_ | refine blk_alloc ?_ _)); refine blk_far ?_ NB522_528.out _; (with_reducible repeat (first | refine blk_drewN ?_ _ | refine blk_drew ?_ | refine blk_alloc ?_ _)); refine blk_far ?_ NB522_528.out _; (with_reducible repeat (first | refine blk_drewN ?_ _ | refine blk_drew ?_ | refine blk_alloc ?_ _)); exact BK522.out⟩, ⟨by (with_reducible repeat (first | refine blk_drewN ?_ _ | refine blk_drew ?_ | refine blk_alloc ?_ _)); refine blk_far ?_ NB523_528.out _; (with_reducible repeat (first | refine blk_drewN ?_ _ | refine blk_drew ?_ | refine blk_alloc ?_ _)); refine blk_far ?_ NB523_528.out _; (with_reducible repeat (first | refine blk_drewN ?_ _ | refine blk_drew ?_ | refine blk_alloc ?_ _)); exact BK523.out⟩, ⟨by (with_reducible repeat (first | refine blk_drewN ?_ _ | refine blk_drew ?_ | refine blk_alloc ?_ _)); refine blk_put (cs := #[.slice none 0 0, .slice none 0 0]) ?_ 1 _ rfl; (with_reducible repeat (first | refine blk_drewN ?_ _ | refine blk_drew ?_ | refine blk_alloc ?_ _)); refine blk_put (cs := #[.slice none 0 0, .slice none 0 0]) ?_ 0 _ rfl; (with_reducible repeat (first | refine blk_drewN ?_ _ | refine blk_drew ?_ | refine blk_alloc ?_ _)); exact BK528.out⟩, ⟨zB3 HB.out GE522.out GE523.out GE528.out⟩⟩
    case round =>
     clear H'
     try clear c1
     try clear c2
     try clear p2
     try clear c4
     try clear c6
     try clear c7
     try clear c9
     try clear c11
     try clear c12
     try clear c15
     try clear c20
     try clear c21
     try clear hcz10_0
     try clear hcz10_1
     try clear hcz13_0
     try clear hcz13_1
     try clear hcz16_0
     try clear hcz16_1
     try clear hcz22_0
     try clear hcz22_1
     try clear hcz23_0
     try clear hcz23_1
     try clear hcz8_0
     try clear hcz8_1
     try clear hfz10_0
     try clear hfz10_1
     try clear hfz13_0
     try clear hfz13_1
     try clear hfz16_0
     try clear hfz16_1
     try clear hfz22_0
     try clear hfz22_1
     try clear hfz23_0
     try clear hfz23_1
     try clear hfz8_0
     try clear hfz8_1
     try clear p2
     obtain ⟨x28_2, x529000_2, u529000, rfl, HA, HK2, HO_529000, HO_529001, BK522, BK523, BK528, HB⟩ := hrel
     cases gk with
     | zero => exact absurd HA.out (by simp [impl_ShapeOf.l0])
     | succ k2 =>
      have H := HA.out
      clear HA
      simp only [impl_ShapeOf.l0] at H
      by_cases c24 : x28_2 < (l0_1.length : Int)
      ·rw [if_pos c24] at H
       have c24b0 : decide (x28_2 < (l0_1.length : Int)) = true := decide_eq_true c24
       clear c24
       by_cases c25 : 0 ≤ x28_2
       ·rw [if_pos c25] at H
        have c25b0 : decide (0 ≤ x28_2) = true := decide_eq_true c25
        clear c25
        by_cases c26 : x28_2 < (l0_1.length : Int)
        ·rw [if_pos c26] at H
         have c26b0 : decide (x28_2 < (l0_1.length : Int)) = true := decide_eq_true c26
         clear c26
         replace H := Option.bind_eq_some_iff.mp H
         obtain ⟨t530, A270, H⟩ := H
         replace H : (if x529000_2.length < 17592186044416 then (impl_ShapeOf.l0 k2 l0_1 (l0_1.length : Int) (wrap64 (x28_2 + 1)) l0_0 l0_1 (x529000_2 ++ [wrap64 (t530 + ((rd_L2 l0_1 x28_2).length : Int))]) t525) else (none)) = some (r1, r2, r3) := H
         have A27 := Aside0.mk A270
         clear A270
         by_cases c28 : x529000_2.length < 17592186044416
         ·rw [if_pos c28] at H
          have LMc28 := Aside0.mk c28
          clear c28
          obtain ⟨y531, hy531⟩ : ∃ y_ : List Int, y_ = (x529000_2 ++ [wrap64 (t530 + ((rd_L2 l0_1 x28_2).length : Int))]) := ⟨_, rfl⟩
          replace H : (impl_ShapeOf.l0 k2 l0_1 (l0_1.length : Int) (wrap64 (x28_2 + 1)) l0_0 l0_1 y531 t525) = some (r1, r2, r3) := zY hy531 H
          have Ny531 := Aside0.mk hy531
          clear hy531
          have H' := Aside0.mk H
          clear H
          have p529 : 0 ≤ (x28_2 : Int) := zd
          have q529 : x28_2 < (l0_1.length : Int) := zd
          obtain ⟨ad529, A529_0, c529_0, e529, hx529_0, hl529_0, hi529_0⟩ := at_L2 HR0_1.out x28_2 p529 q529
          cases e529
          replace hx529_0 := (HB.out.cell (World.block_lt_of_cell? w _ hx529_0)).trans hx529_0
          have HR529_0 := Aside0.mk hi529_0
          have HC529_0 := Aside0.mk hl529_0
          clear hi529_0 hl529_0
          replace p529 := eq_true p529
          replace q529 := eq_true q529
          try go_wp2
          have n0_ := Aside0.mk (Kd.R_drew HO_529000.out)
          have n1_ := Aside0.mk (Kd.R_drew HO_529001.out)
          have n2_ := Aside0.mk (blk_drew BK522.out)
          have n3_ := Aside0.mk (blk_drew BK523.out)
          have n4_ := Aside0.mk (blk_drew BK528.out)
          have n5_ := Aside0.mk (below_drew1 HB.out)
          clear HO_529000
          clear HO_529001
          clear BK522
          clear BK523
          clear BK528
          clear HB
          have HO_529000 := n0_
          have HO_529001 := n1_
          have BK522 := n2_
          have BK523 := n3_
          have BK528 := n4_
          have HB := n5_
          clear n0_ n1_ n2_ n3_ n4_ n5_
          refine start_ (n := 13) (S := fun w' => w'.cell? ⟨gb528, 0, none⟩ = some (u529000) ∧ w'.cell? ⟨gb528, 1, none⟩ = some (.slice Ao18 t525.length co18) ∧ w'.cell? ⟨gb522, 0, none⟩ = some (.slice A0_0 l0_0.length c0_0) ∧ w'.cell? ⟨gb522, 1, none⟩ = some (.slice (some ad529) l0_1.length c0_1)) (ds := [12]) #[false, false, false, false, false, false, false, false, false, false, false, false, false] (by kernel_rfl) rfl rfl ⟨(blk_cell BK528.out 0).trans rfl, (blk_cell BK528.out 1).trans rfl, (blk_cell BK522.out 0).trans rfl, (blk_cell BK522.out 1).trans rfl⟩ (fun hHeld => ?_); refine with_tabW impl_ShapeOf.tab7 impl_ShapeOf.bits7 (fun HT_ HW_ => ?_)
          generalize wr.drew = w29 at HO_529000 HO_529001 BK522 BK523 BK528 HB hHeld ⊢
          refine zP (i := 0) (N := some 33) #[true, false, false, false, false, false, false, false, false, false, false, false, false] (any_of HT_.out (by kernel_rfl)) ?_
          refine zP (i := 2) (N := some 35) #[true, false, true, false, false, false, false, false, false, false, false, false, false] (any_of HT_.out (by kernel_rfl)) ?_
          refine zP (i := 4) (N := some 37) #[true, false, true, false, true, false, false, false, false, false, false, false, false] (any_of HT_.out (by kernel_rfl)) ?_
          refine zP (i := 6) (N := some 39) #[true, false, true, false, true, false, true, false, false, false, false, false, false] (any_of HT_.out (by kernel_rfl)) ?_
          refine zP (i := 7) (N := some 40) #[true, false, true, false, true, false, true, true, false, false, false, false, false] (any_of HT_.out (by kernel_rfl)) ?_
          refine zT4 (i := 1) (N := some 34) #[true, true, true, false, true, false, true, true, false, false, false, false, false] (take_ofW HT_.out HW_.out (by kernel_rfl)) hHeld ?_
          refine zT4 (i := 3) (N := some 36) #[true, true, true, true, true, false, true, true, false, false, false, false, false] (take_ofW HT_.out HW_.out (by kernel_rfl)) hHeld ?_
          refine one_ (i := 5) (N := some 38) #[true, true, true, true, true, true, true, true, false, false, false, false, false] rfl rfl (one_of HT_.out (by kernel_rfl)) (by decide) (fun K hK => ?_)
          refine zC Tryz.func62 #[.slice A0_0 l0_0.length c0_0, .int .i64 x28_2] ?_
          with_reducible refine (impl_at.calls _ _ l0_0 x28_2 t530 _ ?side1 ?side2 A27.out).mono ?_
          (case side1 => exact zQ (Kd.C_below HR0_0.out HB.out))
          (case side2 => exact HC0_0.out)
          rintro e w' ⟨rfl, ⟨nd, rfl⟩⟩
          refine ⟨_, rfl, ?_⟩
          refine hK.out _ _ ⟨(blk_cell BK528.out 0).trans rfl, (blk_cell BK528.out 1).trans rfl, (blk_cell BK522.out 0).trans rfl, (blk_cell BK522.out 1).trans rfl⟩ (fun hHeld => ?_)
          clear hK K
          refine zM (some 38) ?_
          refine zP (i := 8) (N := some 41) #[true, true, true, true, true, true, true, true, true, false, false, false, false] (any_of HT_.out (by kernel_rfl)) ?_
          refine one_ (i := 9) (N := some 42) #[true, true, true, true, true, true, true, true, true, true, false, false, false] rfl rfl (one_of HT_.out (by kernel_rfl)) (by decide) (fun K hK => ?_)
          refine value_ (w1 := ?_) (v := ?_) (by rfl) rfl ?_ ?_
          rotate_left 2
          ·go_simp
           constructor
           ·rfl
           ·rfl
          refine hK.out _ _ ⟨(blk_cell (blk_alloc BK528.out _) 0).trans rfl, (blk_cell (blk_alloc BK528.out _) 1).trans rfl, (blk_cell (blk_alloc BK522.out _) 0).trans rfl, (blk_cell (blk_alloc BK522.out _) 1).trans rfl⟩ (fun hHeld => ?_)
          clear hK K
          refine zM (some 42) ?_
          refine one_ (i := 10) (N := some 43) #[true, true, true, true, true, true, true, true, true, true, true, false, false] rfl rfl (one_of HT_.out (by kernel_rfl)) (by decide) (fun K hK => ?_)
          refine Kd.R_append_step (Kd.int .i64) (w0 := w) w.heap.size (by rfl) (.tmp 34) (.tmp 42) 24 3 (.int .i64 0) 8 rfl Tryz.underlying24 info3 rfl (by decide) (by omega) u529000 x529000_2 (wrap64 (t530 + ((rd_L2 l0_1 x28_2).length : Int))) [.int .i64 (wrap64 (t530 + ((rd_L2 l0_1 x28_2).length : Int)))] (fun k_ => some k_ ≠ (.slice Ao18 t525.length co18 : Value).ownBlock) (fun _ => False) rfl rfl ?aP (fun _ hk => hk.elim) ?aF ?aO ?aB ?aS ?aL ?_
          (case aP => exact rfl)
          (case aB => exact (zB3 HB.out GE522.out GE523.out GE528.out))
          (case aF => exact (fun k_ hk => Kd.fresh' (Kd.R_lt (zR HO_529001.out)) k_ hk))
          (case aO => exact (zR HO_529000.out))
          (case aS => exact (below_size (zB3 HB.out GE522.out GE523.out GE528.out)))
          (case aL => have := LMc28.out; omega)
          intro v532 w30 ho hb hg hat
          rw [← Ny531.out] at ho
          have n0_ := Aside0.mk (Kd.R_after (ok := (fun _ => True)) (zR (Kd.R_mono HO_529001.out (fun _ hk => ⟨trivial, hk⟩))) hg hat)
          have n1_ := Aside0.mk (blk_grown (g := gb522) (o := .cells #[.slice A0_0 l0_0.length c0_0, .slice (some ad529) l0_1.length c0_1] 29 (0, 0)) (zH BK522.out) hg (Kd.R_ne HO_529000.out BK522.out (by decide)))
          have n2_ := Aside0.mk (blk_grown (g := gb523) (o := .cells #[.slice none 0 0, .slice none 0 0] 74 (0, 0)) (zH BK523.out) hg (Kd.R_ne HO_529000.out BK523.out (by decide)))
          have n3_ := Aside0.mk (blk_grown (g := gb528) (o := .cells #[u529000, .slice Ao18 t525.length co18] 74 (0, 0)) (zH BK528.out) hg (Kd.R_ne HO_529000.out BK528.out (by decide)))
          have n4_ := Aside0.mk (hb)
          have n5_ := Aside0.mk (ho)
          clear HO_529001
          clear BK522
          clear BK523
          clear BK528
          clear HB
          clear HO_529000
          have HO_529001 := n0_
          have BK522 := n1_
          have BK523 := n2_
          have BK528 := n3_
          have HB := n4_
          have HO533 := n5_
          clear n0_ n1_ n2_ n3_ n4_ n5_
          clear ho hb hg hat
          obtain ⟨Ao31, co31, eo31⟩ := Kd.R_slice HO533.out
          (first | subst eo31 | (injection eo31 with f1_ f2_ f3_; have f4_ := f1_.symm; have f5_ := f3_.symm; clear f1_ f2_ f3_; subst f4_; subst f5_))
          refine hK.out _ _ ⟨(blk_cell BK528.out 0).trans rfl, (blk_cell BK528.out 1).trans rfl, (blk_cell BK522.out 0).trans rfl, (blk_cell BK522.out 1).trans rfl⟩ (fun hHeld => ?_)
          clear hK K
          refine zM (some 43) ?_
          refine zP (i := 11) (N := some 44) #[true, true, true, true, true, true, true, true, true, true, true, true, false] (any_of HT_.out (by kernel_rfl)) ?_
          refine last_ (i := 12) (N := none) #[true, true, true, true, true, true, true, true, true, true, true, true, true] rfl rfl (one_of HT_.out (by kernel_rfl)) (by decide) (fun K hK => ?_)
          have hs32 : w30.cell? ⟨gb528, 0, none⟩ = some (u529000) := (blk_cell BK528.out 0).trans rfl
          have hfs32 := blk_frozen BK528.out 0
          have hns32_0 := NB522_528.out
          have hns32_1 := NB523_528.out
          have hms32_0 := NB528_522.out
          have hms32_1 := NB528_523.out
          refine skip_ (w1 := ?_) (by rfl) rfl ?_ ?_
          rotate_left
          ·go_simp
           rfl
          refine hK.out _ _ ?_
          clear hK K
          refine done_ (done_of HT_.out (by kernel_rfl)) ?_
          try go_wp2
          go_roundg k2
          case measure => have := HJ1.out; have := HK2.out; omega
          case rel => exact ⟨(wrap64 (x28_2 + 1)), (y531), (.slice Ao31 y531.length co31), zs, H', ⟨by have := HJ1.out; have := HK2.out; omega⟩, ⟨zR (Kd.R_mono (Kd.R_far (p := ⟨gb528, 0, none⟩) (Kd.R_types HO533.out BK528.out (by decide)) (fun _ hk => hk.2) (.slice Ao31 y531.length co31)) (fun _ hk => hk.1))⟩, ⟨zR (Kd.R_mono (Kd.R_far (p := ⟨gb528, 0, none⟩) (Kd.R_types HO_529001.out BK528.out (by decide)) (fun _ hk => hk.2) (.slice Ao31 y531.length co31)) (fun _ hk => hk.1.2))⟩, ⟨by (with_reducible repeat (first | refine blk_drewN ?_ _ | refine blk_drew ?_ | refine blk_alloc ?_ _)); refine blk_far ?_ NB522_528.out _; (with_reducible repeat (first | refine blk_drewN ?_ _ | refine blk_drew ?_ | refine blk_alloc ?_ _)); exact BK522.out⟩, ⟨by (with_reducible repeat (first | refine blk_drewN ?_ _ | refine blk_drew ?_ | refine blk_alloc ?_ _)); refine blk_far ?_ NB523_528.out _; (with_reducible repeat (first | refine blk_drewN ?_ _ | refine blk_drew ?_ | refine blk_alloc ?_ _)); exact BK523.out⟩, ⟨by (with_reducible repeat (first | refine blk_drewN ?_ _ | refine blk_drew ?_ | refine blk_alloc ?_ _)); refine blk_put (cs := #[u529000, .slice Ao18 t525.length co18]) ?_ 0 _ rfl; (with_reducible repeat (first | refine blk_drewN ?_ _ | refine blk_drew ?_ | refine blk_alloc ?_ _)); exact BK528.out⟩, ⟨zB3 HB.out GE522.out GE523.out GE528.out⟩⟩
         ·rw [if_neg c28] at H
          exact absurd H (by simp)
        ·rw [if_neg c26] at H
         exact absurd H (by simp)
       ·rw [if_neg c25] at H
        exact absurd H (by simp)
      ·rw [if_neg c24] at H
       have c24b0 : decide (x28_2 < (l0_1.length : Int)) = false := decide_eq_false c24
       clear c24
       replace H := Option.bind_eq_some_iff.mp H
       obtain ⟨t534, A330, H⟩ := H
       replace H : (if t534 = true then (some (x529000_2, t525, true)) else (some (([] : List Int), ([] : List Int), false))) = some (r1, r2, r3) := H
       have A33 := Aside0.mk A330
       clear A330
       by_cases c34 : t534 = true
       ·subst c34
        have H1 : (some (x529000_2, t525, true)) = some (r1, r2, r3) := by rw [if_pos rfl] at H; exact H
        clear H
        have H := H1
        clear H1
        simp only [Option.some.injEq, Prod.mk.injEq] at H
        obtain ⟨rfl, rfl, rfl⟩ := H
        have hnb35 := NB528_522.out
        have hnc35 := NB522_528.out
        have hnb36 := NB528_523.out
        have hnc36 := NB523_528.out
        have hcz37_0 : wr.cell? ⟨gb528, 0, none⟩ = some (u529000) := (blk_cell BK528.out 0).trans rfl
        have hcz37_1 : wr.cell? ⟨gb528, 1, none⟩ = some (.slice Ao18 t525.length co18) := (blk_cell BK528.out 1).trans rfl
        have hfz37_0 := blk_frozen BK528.out 0
        have hfz37_1 := blk_frozen BK528.out 1
        obtain ⟨Ao38, co38, eo38⟩ := Kd.R_slice HO_529000.out
        subst eo38
        go_wp2_with (first | ((with_reducible refine gate_callee (f := 74) rfl ?_); refine zG (some 47) Tryz.func74 #[.agg #[.slice Ao38 x529000_2.length co38, .slice Ao18 t525.length co18]] ?_; (with_reducible refine (impl_IsShape.calls k2 _ _ x529000_2 _ _ t525 true _ ?side1 ?side2 ?side3 ?side4 A33.out).mono ?_); (case side1 => exact zQ (Kd.R_reads' HO_529000.out).2.2); (case side2 => exact (Kd.R_reads' HO_529000.out).2.1); (case side3 => exact zQ (Kd.R_reads' HO_529001.out).2.2); (case side4 => exact (Kd.R_reads' HO_529001.out).2.1); rintro e w39 ⟨rfl, hb⟩; refine ⟨_, rfl, ?_⟩; have n0_ := Aside0.mk (Kd.R_below (zR HO_529000.out) hb); have n1_ := Aside0.mk (Kd.R_below (zR HO_529001.out) hb); have n2_ := Aside0.mk (blk_below (g := gb522) (o := .cells #[.slice A0_0 l0_0.length c0_0, .slice A0_1 l0_1.length c0_1] 29 (0, 0)) (zH BK522.out) hb); have n3_ := Aside0.mk (blk_below (g := gb523) (o := .cells #[.slice none 0 0, .slice none 0 0] 74 (0, 0)) (zH BK523.out) hb); have n4_ := Aside0.mk (blk_below (g := gb528) (o := .cells #[.slice Ao38 x529000_2.length co38, .slice Ao18 t525.length co18] 74 (0, 0)) (zH BK528.out) hb); have n5_ := Aside0.mk (below_step (zB3 HB.out GE522.out GE523.out GE528.out) hb); clear HO_529000; clear HO_529001; clear BK522; clear BK523; clear BK528; clear HB; have HO_529000 := n0_; have HO_529001 := n1_; have BK522 := n2_; have BK523 := n3_; have BK528 := n4_; have HB := n5_; clear n0_ n1_ n2_ n3_ n4_ n5_; (try clear hb); (try clear hb2); (try clear hk); (try clear hi); have hcz40_0 : w39.cell? ⟨gb528, 0, none⟩ = some (.slice Ao38 x529000_2.length co38) := (blk_cell BK528.out 0).trans rfl; have hcz40_1 : w39.cell? ⟨gb528, 1, none⟩ = some (.slice Ao18 t525.length co18) := (blk_cell BK528.out 1).trans rfl; have hfz40_0 := blk_frozen BK528.out 0; have hfz40_1 := blk_frozen BK528.out 1; have hnb41 := NB523_522.out; have hnc41 := NB522_523.out; have hcz42_0 : w39.cell? ⟨gb523, 0, none⟩ = some (.slice none 0 0) := (blk_cell BK523.out 0).trans rfl; have hcz42_1 : w39.cell? ⟨gb523, 1, none⟩ = some (.slice none 0 0) := (blk_cell BK523.out 1).trans rfl; have hfz42_0 := blk_frozen BK523.out 0; have hfz42_1 := blk_frozen BK523.out 1))
        refine bodyPost_ret (results_ct rfl _ _ gb523 74 #[.slice Ao38 x529000_2.length co38, .slice Ao18 t525.length co18] (0, 0) _ rfl (by (with_reducible repeat (first | refine blk_drewN ?_ _ | refine blk_drew ?_ | refine blk_alloc ?_ _)); refine blk_put (cs := #[.slice Ao38 x529000_2.length co38, .slice none 0 0]) ?_ 1 _ rfl; (with_reducible repeat (first | refine blk_drewN ?_ _ | refine blk_drew ?_ | refine blk_alloc ?_ _)); refine blk_put (cs := #[.slice none 0 0, .slice none 0 0]) ?_ 0 _ rfl; (with_reducible repeat (first | refine blk_drewN ?_ _ | refine blk_drew ?_ | refine blk_alloc ?_ _)); exact BK523.out) Tryz.underlying74 rfl (by kernel_rfl)) rfl ?_
        exact ⟨_, _, zr, zR (Kd.R_mono (Kd.R_far (p := ⟨gb523, 1, none⟩) (Kd.R_far (p := ⟨gb523, 0, none⟩) (Kd.R_types HO_529000.out BK523.out (by decide)) (fun _ hk => hk.2) (.slice Ao38 x529000_2.length co38)) (fun _ hk => hk.2) (.slice Ao18 t525.length co18)) (fun _ hk => hk.1)), zR (Kd.R_mono (Kd.R_far (p := ⟨gb523, 1, none⟩) (Kd.R_far (p := ⟨gb523, 0, none⟩) (Kd.R_types HO_529001.out BK523.out (by decide)) (fun _ hk => hk.2) (.slice Ao38 x529000_2.length co38)) (fun _ hk => hk.2) (.slice Ao18 t525.length co18)) (fun _ hk => hk.1)), zB3 HB.out GE522.out GE523.out GE528.out⟩
       ·replace c34 := Bool.eq_false_iff.mpr c34
        subst c34
        have H1 : (some (([] : List Int), ([] : List Int), false)) = some (r1, r2, r3) := by rw [if_neg (show ¬ (false = true) by decide)] at H; exact H
        clear H
        have H := H1
        clear H1
        simp only [Option.some.injEq, Prod.mk.injEq] at H
        obtain ⟨rfl, rfl, rfl⟩ := H
        have hnb43 := NB528_522.out
        have hnc43 := NB522_528.out
        have hnb44 := NB528_523.out
        have hnc44 := NB523_528.out
        have hcz45_0 : wr.cell? ⟨gb528, 0, none⟩ = some (u529000) := (blk_cell BK528.out 0).trans rfl
        have hcz45_1 : wr.cell? ⟨gb528, 1, none⟩ = some (.slice Ao18 t525.length co18) := (blk_cell BK528.out 1).trans rfl
        have hfz45_0 := blk_frozen BK528.out 0
        have hfz45_1 := blk_frozen BK528.out 1
        obtain ⟨Ao46, co46, eo46⟩ := Kd.R_slice HO_529000.out
        subst eo46
        go_wp2_with (first | ((with_reducible refine gate_callee (f := 74) rfl ?_); refine zG (some 47) Tryz.func74 #[.agg #[.slice Ao46 x529000_2.length co46, .slice Ao18 t525.length co18]] ?_; (with_reducible refine (impl_IsShape.calls k2 _ _ x529000_2 _ _ t525 false _ ?side1 ?side2 ?side3 ?side4 A33.out).mono ?_); (case side1 => exact zQ (Kd.R_reads' HO_529000.out).2.2); (case side2 => exact (Kd.R_reads' HO_529000.out).2.1); (case side3 => exact zQ (Kd.R_reads' HO_529001.out).2.2); (case side4 => exact (Kd.R_reads' HO_529001.out).2.1); rintro e w47 ⟨rfl, hb⟩; refine ⟨_, rfl, ?_⟩; have n0_ := Aside0.mk (Kd.R_below (zR HO_529000.out) hb); have n1_ := Aside0.mk (Kd.R_below (zR HO_529001.out) hb); have n2_ := Aside0.mk (blk_below (g := gb522) (o := .cells #[.slice A0_0 l0_0.length c0_0, .slice A0_1 l0_1.length c0_1] 29 (0, 0)) (zH BK522.out) hb); have n3_ := Aside0.mk (blk_below (g := gb523) (o := .cells #[.slice none 0 0, .slice none 0 0] 74 (0, 0)) (zH BK523.out) hb); have n4_ := Aside0.mk (blk_below (g := gb528) (o := .cells #[.slice Ao46 x529000_2.length co46, .slice Ao18 t525.length co18] 74 (0, 0)) (zH BK528.out) hb); have n5_ := Aside0.mk (below_step (zB3 HB.out GE522.out GE523.out GE528.out) hb); clear HO_529000; clear HO_529001; clear BK522; clear BK523; clear BK528; clear HB; have HO_529000 := n0_; have HO_529001 := n1_; have BK522 := n2_; have BK523 := n3_; have BK528 := n4_; have HB := n5_; clear n0_ n1_ n2_ n3_ n4_ n5_; (try clear hb); (try clear hb2); (try clear hk); (try clear hi); have hnb48 := NB523_522.out; have hnc48 := NB522_523.out; have hcz49_0 : w47.cell? ⟨gb523, 0, none⟩ = some (.slice none 0 0) := (blk_cell BK523.out 0).trans rfl; have hcz49_1 : w47.cell? ⟨gb523, 1, none⟩ = some (.slice none 0 0) := (blk_cell BK523.out 1).trans rfl; have hfz49_0 := blk_frozen BK523.out 0; have hfz49_1 := blk_frozen BK523.out 1))
        refine bodyPost_ret (results_ct rfl _ _ gb523 74 #[.slice none 0 0, .slice none 0 0] (0, 0) _ rfl (by (with_reducible repeat (first | refine blk_drewN ?_ _ | refine blk_drew ?_ | refine blk_alloc ?_ _)); refine blk_put (cs := #[.slice none 0 0, .slice none 0 0]) ?_ 1 _ rfl; (with_reducible repeat (first | refine blk_drewN ?_ _ | refine blk_drew ?_ | refine blk_alloc ?_ _)); refine blk_put (cs := #[.slice none 0 0, .slice none 0 0]) ?_ 0 _ rfl; (with_reducible repeat (first | refine blk_drewN ?_ _ | refine blk_drew ?_ | refine blk_alloc ?_ _)); exact BK523.out) Tryz.underlying74 rfl (by kernel_rfl)) rfl ?_
        exact ⟨_, _, zr, by first | exact Kd.R_nil _ _ _ _ _ | exact Kd.N_nil _ _ _ _ _ | exact Kd.V_nil _ _ _ _ _ | exact Kd.Q_nil _ _ _ _ _ | exact Kd.S_nil _ _ _ _ _, by first | exact Kd.R_nil _ _ _ _ _ | exact Kd.N_nil _ _ _ _ _ | exact Kd.V_nil _ _ _ _ _ | exact Kd.Q_nil _ _ _ _ _ | exact Kd.S_nil _ _ _ _ _, zB3 HB.out GE522.out GE523.out GE528.out⟩

def impl_Tableau_entry.f (l0_0 : List Int) (l0_1 : List (List Int)) (a1 : Int) (a2 : Int) : Option (Int) := (impl_within.f a1 0 (wrap64 ((l0_1.length : Int) - 1))).bind fun t536 => (if t536 = true then (if 0 ≤ a1 then (if a1 < (l0_1.length : Int) then ((impl_at.f l0_0 a1).bind fun t538 => ((impl_at.f (rd_L2 l0_1 a1) (wrap64 (a2 - t538))).bind fun t539 => (some t539))) else (none)) else (none)) else (some 0))
set_option maxHeartbeats 8000000 in
set_option maxRecDepth 100000 in
theorem impl_Tableau_entry.calls (A0_0 : Option Addr) (c0_0 : Nat) (l0_0 : List Int) (A0_1 : Option Addr) (c0_1 : Nat) (l0_1 : List (List Int)) (a1 : Int) (a2 : Int) (r : Int) (w : World) (hr0_0 : Kd.C (Kd.int .i64) w A0_0 l0_0.length l0_0) (hc0_0 : l0_0.length ≤ c0_0) (hr0_1 : Kd.C (Kd.slice 3 (Kd.int .i64)) w A0_1 l0_1.length l0_1) (hc0_1 : l0_1.length ≤ c0_1) (h : impl_Tableau_entry.f l0_0 l0_1 a1 a2 = some r) :
  Calls Tryz.prog 61 #[.agg #[.slice A0_0 l0_0.length c0_0, .slice A0_1 l0_1.length c0_1], .int .i64 a1, .int .i64 a2] w fun e w' => e = .returned (.int .i64 r) ∧ Below w.heap.size w w' := by
 have hu29 := Tryz.underlying29
 have HR0_0 := Aside0.mk hr0_0
 have HC0_0 := Aside0.mk hc0_0
 clear hr0_0 hc0_0
 have HR0_1 := Aside0.mk hr0_1
 have HC0_1 := Aside0.mk hc0_1
 clear hr0_1 hc0_1
 have HB := Aside0.mk (Below.refl w.heap.size w)
 have H : ((impl_within.f a1 0 (wrap64 ((l0_1.length : Int) - 1))).bind fun t536 => (if t536 = true then (if 0 ≤ a1 then (if a1 < (l0_1.length : Int) then ((impl_at.f l0_0 a1).bind fun t538 => ((impl_at.f (rd_L2 l0_1 a1) (wrap64 (a2 - t538))).bind fun t539 => (some t539))) else (none)) else (none)) else (some 0))) = some r := h
 clear h
 replace H := Option.bind_eq_some_iff.mp H
 obtain ⟨t536, A40, H⟩ := H
 replace H : (if t536 = true then (if 0 ≤ a1 then (if a1 < (l0_1.length : Int) then ((impl_at.f l0_0 a1).bind fun t538 => ((impl_at.f (rd_L2 l0_1 a1) (wrap64 (a2 - t538))).bind fun t539 => (some t539))) else (none)) else (none)) else (some 0)) = some r := H
 have A4 := Aside0.mk A40
 clear A40
 by_cases c5 : t536 = true
 ·subst c5
  have H1 : (if 0 ≤ a1 then (if a1 < (l0_1.length : Int) then ((impl_at.f l0_0 a1).bind fun t538 => ((impl_at.f (rd_L2 l0_1 a1) (wrap64 (a2 - t538))).bind fun t539 => (some t539))) else (none)) else (none)) = some r := by rw [if_pos rfl] at H; exact H
  clear H
  have H := H1
  clear H1
  by_cases c6 : 0 ≤ a1
  ·rw [if_pos c6] at H
   have c6b0 : decide (0 ≤ a1) = true := decide_eq_true c6
   clear c6
   by_cases c7 : a1 < (l0_1.length : Int)
   ·rw [if_pos c7] at H
    have c7b0 : decide (a1 < (l0_1.length : Int)) = true := decide_eq_true c7
    clear c7
    replace H := Option.bind_eq_some_iff.mp H
    obtain ⟨t538, A80, H⟩ := H
    replace H : ((impl_at.f (rd_L2 l0_1 a1) (wrap64 (a2 - t538))).bind fun t539 => (some t539)) = some r := H
    have A8 := Aside0.mk A80
    clear A80
    replace H := Option.bind_eq_some_iff.mp H
    obtain ⟨t539, A90, H⟩ := H
    replace H : (some t539) = some r := H
    have A9 := Aside0.mk A90
    clear A90
    obtain rfl := Option.some.inj H
    go_enter Tryz.func61, Tryz.ntmps61
    go_wp2_with (first | ((with_reducible refine gate_dst (N := 3) rfl ?_); refine zX (N := 3) (cs := #[.slice A0_0 l0_0.length c0_0, .slice A0_1 l0_1.length c0_1]) (t := 29) ?_; intro gb535 hg w10 hbox hb; have n0_ := Aside0.mk (below_step (zB HB.out) hb); have n1_ := Aside0.mk (hbox); have n2_ := Aside0.mk ((by rw [hg]; exact (below_size (zB HB.out)) : w.heap.size ≤ gb535)); have n3_ := Aside0.mk ((by rw [hg]; exact (below_size (zB HB.out)) : w.heap.size ≤ gb535)); clear HB; have HB := n0_; have BK535 := n1_; have GW535 := n2_; have GE535 := n3_; clear n0_ n1_ n2_ n3_; clear hb hbox hg; have hcz11_0 : w10.cell? ⟨gb535, 0, none⟩ = some (.slice A0_0 l0_0.length c0_0) := (blk_cell BK535.out 0).trans rfl; have hcz11_1 : w10.cell? ⟨gb535, 1, none⟩ = some (.slice A0_1 l0_1.length c0_1) := (blk_cell BK535.out 1).trans rfl; have hfz11_0 := blk_frozen BK535.out 0; have hfz11_1 := blk_frozen BK535.out 1) | (go_at_call 37; (with_reducible refine (impl_within.calls a1 0 (wrap64 ((l0_1.length : Int) - 1)) true _ A4.out).mono ?_); rintro e w' ⟨rfl, ⟨nd, rfl⟩⟩; (try exact zW); have p537 : 0 ≤ (a1 : Int) := zd; have q537 : a1 < (l0_1.length : Int) := zd; obtain ⟨ad537, A537_0, c537_0, e537, hx537_0, hl537_0, hi537_0⟩ := at_L2 HR0_1.out a1 p537 q537; cases e537; replace hx537_0 := (HB.out.cell (World.block_lt_of_cell? w _ hx537_0)).trans hx537_0; have HR537_0 := Aside0.mk hi537_0; have HC537_0 := Aside0.mk hl537_0; clear hi537_0 hl537_0; replace p537 := eq_true p537; replace q537 := eq_true q537) | (go_at_call 62; (with_reducible refine (impl_at.calls _ _ l0_0 a1 t538 _ ?side1 ?side2 A8.out).mono ?_); (case side1 => exact zQ (Kd.C_below HR0_0.out (zB1 HB.out GE535.out))); (case side2 => exact HC0_0.out); rintro e w' ⟨rfl, ⟨nd, rfl⟩⟩; (try exact zW)) | (go_at_call 62; (with_reducible refine (impl_at.calls _ _ (rd_L2 l0_1 a1) (wrap64 (a2 - t538)) t539 _ ?side1 ?side2 A9.out).mono ?_); (case side1 => exact zQ (Kd.C_below HR537_0.out (zB1 HB.out GE535.out))); (case side2 => exact HC537_0.out); rintro e w' ⟨rfl, ⟨nd, rfl⟩⟩; (try exact zW)))
    repeat (go_quiet (first | ((with_reducible refine gate_dst (N := 3) rfl ?_); refine zX (N := 3) (cs := #[.slice A0_0 l0_0.length c0_0, .slice A0_1 l0_1.length c0_1]) (t := 29) ?_; intro gb535 hg w10 hbox hb; have n0_ := Aside0.mk (below_step (zB HB.out) hb); have n1_ := Aside0.mk (hbox); have n2_ := Aside0.mk ((by rw [hg]; exact (below_size (zB HB.out)) : w.heap.size ≤ gb535)); have n3_ := Aside0.mk ((by rw [hg]; exact (below_size (zB HB.out)) : w.heap.size ≤ gb535)); clear HB; have HB := n0_; have BK535 := n1_; have GW535 := n2_; have GE535 := n3_; clear n0_ n1_ n2_ n3_; clear hb hbox hg; have hcz11_0 : w10.cell? ⟨gb535, 0, none⟩ = some (.slice A0_0 l0_0.length c0_0) := (blk_cell BK535.out 0).trans rfl; have hcz11_1 : w10.cell? ⟨gb535, 1, none⟩ = some (.slice A0_1 l0_1.length c0_1) := (blk_cell BK535.out 1).trans rfl; have hfz11_0 := blk_frozen BK535.out 0; have hfz11_1 := blk_frozen BK535.out 1) | (go_at_call 37; (with_reducible refine (impl_within.calls a1 0 (wrap64 ((l0_1.length : Int) - 1)) true _ A4.out).mono ?_); rintro e w' ⟨rfl, ⟨nd, rfl⟩⟩; (try exact zW); have p537 : 0 ≤ (a1 : Int) := zd; have q537 : a1 < (l0_1.length : Int) := zd; obtain ⟨ad537, A537_0, c537_0, e537, hx537_0, hl537_0, hi537_0⟩ := at_L2 HR0_1.out a1 p537 q537; cases e537; replace hx537_0 := (HB.out.cell (World.block_lt_of_cell? w _ hx537_0)).trans hx537_0; have HR537_0 := Aside0.mk hi537_0; have HC537_0 := Aside0.mk hl537_0; clear hi537_0 hl537_0; replace p537 := eq_true p537; replace q537 := eq_true q537) | (go_at_call 62; (with_reducible refine (impl_at.calls _ _ l0_0 a1 t538 _ ?side1 ?side2 A8.out).mono ?_); (case side1 => exact zQ (Kd.C_below HR0_0.out (zB1 HB.out GE535.out))); (case side2 => exact HC0_0.out); rintro e w' ⟨rfl, ⟨nd, rfl⟩⟩; (try exact zW)) | (go_at_call 62; (with_reducible refine (impl_at.calls _ _ (rd_L2 l0_1 a1) (wrap64 (a2 - t538)) t539 _ ?side1 ?side2 A9.out).mono ?_); (case side1 => exact zQ (Kd.C_below HR537_0.out (zB1 HB.out GE535.out))); (case side2 => exact HC537_0.out); rintro e w' ⟨rfl, ⟨nd, rfl⟩⟩; (try exact zW))); try go_wp2_with (first | ((with_reducible refine gate_dst (N := 3) rfl ?_); refine zX (N := 3) (cs := #[.slice A0_0 l0_0.length c0_0, .slice A0_1 l0_1.length c0_1]) (t := 29) ?_; intro gb535 hg w10 hbox hb; have n0_ := Aside0.mk (below_step (zB HB.out) hb); have n1_ := Aside0.mk (hbox); have n2_ := Aside0.mk ((by rw [hg]; exact (below_size (zB HB.out)) : w.heap.size ≤ gb535)); have n3_ := Aside0.mk ((by rw [hg]; exact (below_size (zB HB.out)) : w.heap.size ≤ gb535)); clear HB; have HB := n0_; have BK535 := n1_; have GW535 := n2_; have GE535 := n3_; clear n0_ n1_ n2_ n3_; clear hb hbox hg; have hcz11_0 : w10.cell? ⟨gb535, 0, none⟩ = some (.slice A0_0 l0_0.length c0_0) := (blk_cell BK535.out 0).trans rfl; have hcz11_1 : w10.cell? ⟨gb535, 1, none⟩ = some (.slice A0_1 l0_1.length c0_1) := (blk_cell BK535.out 1).trans rfl; have hfz11_0 := blk_frozen BK535.out 0; have hfz11_1 := blk_frozen BK535.out 1) | (go_at_call 37; (with_reducible refine (impl_within.calls a1 0 (wrap64 ((l0_1.length : Int) - 1)) true _ A4.out).mono ?_); rintro e w' ⟨rfl, ⟨nd, rfl⟩⟩; (try exact zW); have p537 : 0 ≤ (a1 : Int) := zd; have q537 : a1 < (l0_1.length : Int) := zd; obtain ⟨ad537, A537_0, c537_0, e537, hx537_0, hl537_0, hi537_0⟩ := at_L2 HR0_1.out a1 p537 q537; cases e537; replace hx537_0 := (HB.out.cell (World.block_lt_of_cell? w _ hx537_0)).trans hx537_0; have HR537_0 := Aside0.mk hi537_0; have HC537_0 := Aside0.mk hl537_0; clear hi537_0 hl537_0; replace p537 := eq_true p537; replace q537 := eq_true q537) | (go_at_call 62; (with_reducible refine (impl_at.calls _ _ l0_0 a1 t538 _ ?side1 ?side2 A8.out).mono ?_); (case side1 => exact zQ (Kd.C_below HR0_0.out (zB1 HB.out GE535.out))); (case side2 => exact HC0_0.out); rintro e w' ⟨rfl, ⟨nd, rfl⟩⟩; (try exact zW)) | (go_at_call 62; (with_reducible refine (impl_at.calls _ _ (rd_L2 l0_1 a1) (wrap64 (a2 - t538)) t539 _ ?side1 ?side2 A9.out).mono ?_); (case side1 => exact zQ (Kd.C_below HR537_0.out (zB1 HB.out GE535.out))); (case side2 => exact HC537_0.out); rintro e w' ⟨rfl, ⟨nd, rfl⟩⟩; (try exact zW))))
    go_ret
    exact ⟨zr, zB1 HB.out GE535.out⟩
   ·rw [if_neg c7] at H
    exact absurd H (by simp)
  ·rw [if_neg c6] at H
   exact absurd H (by simp)
 ·replace c5 := Bool.eq_false_iff.mpr c5
  subst c5
  have H1 : (some 0) = some r := by rw [if_neg (show ¬ (false = true) by decide)] at H; exact H
  clear H
  have H := H1
  clear H1
  obtain rfl := Option.some.inj H
  go_enter Tryz.func61, Tryz.ntmps61
  go_wp2_with (first | ((with_reducible refine gate_dst (N := 3) rfl ?_); refine zX (N := 3) (cs := #[.slice A0_0 l0_0.length c0_0, .slice A0_1 l0_1.length c0_1]) (t := 29) ?_; intro gb535 hg w12 hbox hb; have n0_ := Aside0.mk (below_step (zB HB.out) hb); have n1_ := Aside0.mk (hbox); have n2_ := Aside0.mk ((by rw [hg]; exact (below_size (zB HB.out)) : w.heap.size ≤ gb535)); have n3_ := Aside0.mk ((by rw [hg]; exact (below_size (zB HB.out)) : w.heap.size ≤ gb535)); clear HB; have HB := n0_; have BK535 := n1_; have GW535 := n2_; have GE535 := n3_; clear n0_ n1_ n2_ n3_; clear hb hbox hg; have hcz13_0 : w12.cell? ⟨gb535, 0, none⟩ = some (.slice A0_0 l0_0.length c0_0) := (blk_cell BK535.out 0).trans rfl; have hcz13_1 : w12.cell? ⟨gb535, 1, none⟩ = some (.slice A0_1 l0_1.length c0_1) := (blk_cell BK535.out 1).trans rfl; have hfz13_0 := blk_frozen BK535.out 0; have hfz13_1 := blk_frozen BK535.out 1) | (go_at_call 37; (with_reducible refine (impl_within.calls a1 0 (wrap64 ((l0_1.length : Int) - 1)) false _ A4.out).mono ?_); rintro e w' ⟨rfl, ⟨nd, rfl⟩⟩; (try exact zW)))
  repeat (go_quiet (first | ((with_reducible refine gate_dst (N := 3) rfl ?_); refine zX (N := 3) (cs := #[.slice A0_0 l0_0.length c0_0, .slice A0_1 l0_1.length c0_1]) (t := 29) ?_; intro gb535 hg w12 hbox hb; have n0_ := Aside0.mk (below_step (zB HB.out) hb); have n1_ := Aside0.mk (hbox); have n2_ := Aside0.mk ((by rw [hg]; exact (below_size (zB HB.out)) : w.heap.size ≤ gb535)); have n3_ := Aside0.mk ((by rw [hg]; exact (below_size (zB HB.out)) : w.heap.size ≤ gb535)); clear HB; have HB := n0_; have BK535 := n1_; have GW535 := n2_; have GE535 := n3_; clear n0_ n1_ n2_ n3_; clear hb hbox hg; have hcz13_0 : w12.cell? ⟨gb535, 0, none⟩ = some (.slice A0_0 l0_0.length c0_0) := (blk_cell BK535.out 0).trans rfl; have hcz13_1 : w12.cell? ⟨gb535, 1, none⟩ = some (.slice A0_1 l0_1.length c0_1) := (blk_cell BK535.out 1).trans rfl; have hfz13_0 := blk_frozen BK535.out 0; have hfz13_1 := blk_frozen BK535.out 1) | (go_at_call 37; (with_reducible refine (impl_within.calls a1 0 (wrap64 ((l0_1.length : Int) - 1)) false _ A4.out).mono ?_); rintro e w' ⟨rfl, ⟨nd, rfl⟩⟩; (try exact zW))); try go_wp2_with (first | ((with_reducible refine gate_dst (N := 3) rfl ?_); refine zX (N := 3) (cs := #[.slice A0_0 l0_0.length c0_0, .slice A0_1 l0_1.length c0_1]) (t := 29) ?_; intro gb535 hg w12 hbox hb; have n0_ := Aside0.mk (below_step (zB HB.out) hb); have n1_ := Aside0.mk (hbox); have n2_ := Aside0.mk ((by rw [hg]; exact (below_size (zB HB.out)) : w.heap.size ≤ gb535)); have n3_ := Aside0.mk ((by rw [hg]; exact (below_size (zB HB.out)) : w.heap.size ≤ gb535)); clear HB; have HB := n0_; have BK535 := n1_; have GW535 := n2_; have GE535 := n3_; clear n0_ n1_ n2_ n3_; clear hb hbox hg; have hcz13_0 : w12.cell? ⟨gb535, 0, none⟩ = some (.slice A0_0 l0_0.length c0_0) := (blk_cell BK535.out 0).trans rfl; have hcz13_1 : w12.cell? ⟨gb535, 1, none⟩ = some (.slice A0_1 l0_1.length c0_1) := (blk_cell BK535.out 1).trans rfl; have hfz13_0 := blk_frozen BK535.out 0; have hfz13_1 := blk_frozen BK535.out 1) | (go_at_call 37; (with_reducible refine (impl_within.calls a1 0 (wrap64 ((l0_1.length : Int) - 1)) false _ A4.out).mono ?_); rintro e w' ⟨rfl, ⟨nd, rfl⟩⟩; (try exact zW))))
  go_ret
  exact ⟨zr, zB1 HB.out GE535.out⟩

end Go.Proofs.YtpandocpclecgaaGreatDoor.F
