/- For each Go function named below: the plain Lean function that it computes, and that its call returns just that; conditions: those that each theorem names. -/
import Derived.Test.YtpandocpclecgaaGreatDoorF0
import Derived.Test.YtpandocpclecgaaGreatDoorF1
namespace Go.Proofs.YtpandocpclecgaaGreatDoor.F
open Go.RowKit Go.Proofs.YtpandocpclecgaaGreatDoorW.PrintWords Go.Proofs.YtpandocpclecgaaGreatDoorW.PrintLast Go.Proofs.YtpandocpclecgaaGreatDoorW.PrintMore
attribute [local go_sem] max2_int min2_int max_two min_two max_three min_three max_four min_four   -- for this text's walks alone
set_option linter.unusedVariables false
set_option linter.unusedSimpArgs false
abbrev zB13_0 : Array Bool := #[false, false, false, false, false, false, false, false, false, false, false, false, false, false, false]
abbrev zB13_1 : Array Bool := #[true, false, false, false, false, false, false, false, false, false, false, false, false, false, false]
abbrev zB13_2 : Array Bool := #[true, true, false, false, false, false, false, false, false, false, false, false, false, false, false]
abbrev zB13_3 : Array Bool := #[true, true, true, false, false, false, false, false, false, false, false, false, false, false, false]
abbrev zB13_4 : Array Bool := #[true, true, true, true, false, false, false, false, false, false, false, false, false, false, false]
abbrev zB13_5 : Array Bool := #[true, true, true, true, false, true, false, false, false, false, false, false, false, false, false]
abbrev zB13_6 : Array Bool := #[true, true, true, true, false, true, true, false, false, false, false, false, false, false, false]
abbrev zB13_7 : Array Bool := #[true, true, true, true, false, true, true, true, false, false, false, false, false, false, false]
abbrev zB13_8 : Array Bool := #[true, true, true, true, false, true, true, true, true, false, false, false, false, false, false]
abbrev zB13_9 : Array Bool := #[true, true, true, true, true, true, true, true, true, false, false, false, false, false, false]
abbrev zB13_10 : Array Bool := #[true, true, true, true, true, true, true, true, true, true, false, false, false, false, false]
abbrev zB13_11 : Array Bool := #[true, true, true, true, true, true, true, true, true, true, true, false, false, false, false]
abbrev zB13_12 : Array Bool := #[true, true, true, true, true, true, true, true, true, true, true, true, false, false, false]
abbrev zB13_13 : Array Bool := #[true, true, true, true, true, true, true, true, true, true, true, true, true, false, false]
abbrev zB13_14 : Array Bool := #[true, true, true, true, true, true, true, true, true, true, true, true, true, true, false]
abbrev zB13_15 : Array Bool := #[true, true, true, true, true, true, true, true, true, true, true, true, true, true, true]
abbrev zB13_16 : Array Bool := #[false, false, false, false, false, false, false, false, false, false, false, false, false, false, false, false, false, false, false, false, false, false, false]
abbrev zB13_17 : Array Bool := #[true, false, false, false, false, false, false, false, false, false, false, false, false, false, false, false, false, false, false, false, false, false, false]
abbrev zB13_18 : Array Bool := #[true, true, false, false, false, false, false, false, false, false, false, false, false, false, false, false, false, false, false, false, false, false, false]
abbrev zB13_19 : Array Bool := #[true, true, true, false, false, false, false, false, false, false, false, false, false, false, false, false, false, false, false, false, false, false, false]
abbrev zB13_20 : Array Bool := #[true, true, true, true, false, false, false, false, false, false, false, false, false, false, false, false, false, false, false, false, false, false, false]
abbrev zB13_21 : Array Bool := #[true, true, true, true, true, false, false, false, false, false, false, false, false, false, false, false, false, false, false, false, false, false, false]
abbrev zB13_22 : Array Bool := #[true, true, true, true, true, true, false, false, false, false, false, false, false, false, false, false, false, false, false, false, false, false, false]
abbrev zB13_23 : Array Bool := #[true, true, true, true, true, true, true, false, false, false, false, false, false, false, false, false, false, false, false, false, false, false, false]
abbrev zB13_24 : Array Bool := #[true, true, true, true, true, true, true, true, false, false, false, false, false, false, false, false, false, false, false, false, false, false, false]
abbrev zB13_25 : Array Bool := #[true, true, true, true, true, true, true, true, true, false, false, false, false, false, false, false, false, false, false, false, false, false, false]
abbrev zB13_26 : Array Bool := #[true, true, true, true, true, true, true, true, true, true, false, false, false, false, false, false, false, false, false, false, false, false, false]
abbrev zB13_27 : Array Bool := #[true, true, true, true, true, true, true, true, true, true, false, false, false, true, false, false, false, false, false, false, false, false, false]
abbrev zB13_28 : Array Bool := #[true, true, true, true, true, true, true, true, true, true, false, false, false, true, true, false, false, false, false, false, false, false, false]
abbrev zB13_29 : Array Bool := #[true, true, true, true, true, true, true, true, true, true, false, false, false, true, true, true, false, false, false, false, false, false, false]
abbrev zB13_30 : Array Bool := #[true, true, true, true, true, true, true, true, true, true, false, false, false, true, true, true, true, false, false, false, false, false, false]
abbrev zB13_31 : Array Bool := #[true, true, true, true, true, true, true, true, true, true, true, false, false, true, true, true, true, false, false, false, false, false, false]
abbrev zB13_32 : Array Bool := #[true, true, true, true, true, true, true, true, true, true, true, true, false, true, true, true, true, false, false, false, false, false, false]
abbrev zB13_33 : Array Bool := #[true, true, true, true, true, true, true, true, true, true, true, true, true, true, true, true, true, false, false, false, false, false, false]
abbrev zB13_34 : Array Bool := #[true, true, true, true, true, true, true, true, true, true, true, true, true, true, true, true, true, true, false, false, false, false, false]
abbrev zB13_35 : Array Bool := #[true, true, true, true, true, true, true, true, true, true, true, true, true, true, true, true, true, true, true, false, false, false, false]
abbrev zB13_36 : Array Bool := #[true, true, true, true, true, true, true, true, true, true, true, true, true, true, true, true, true, true, true, true, false, false, false]
abbrev zB13_37 : Array Bool := #[true, true, true, true, true, true, true, true, true, true, true, true, true, true, true, true, true, true, true, true, true, false, false]
abbrev zB13_38 : Array Bool := #[true, true, true, true, true, true, true, true, true, true, true, true, true, true, true, true, true, true, true, true, true, true, false]
abbrev zB13_39 : Array Bool := #[true, true, true, true, true, true, true, true, true, true, true, true, true, true, true, true, true, true, true, true, true, true, true]

mutual
def spec_IsLattice.l0 : Nat → List Int → List Int → Int → Option (Bool)
 | 0, _, _, _ => none
 | k + 1, x0, x3, x4 => if x4 ≥ 0 then ((spec_IsWord.f k x0).bind fun t560 => (spec_IsLattice.j1 k x0 x3 x4 t560)) else (spec_IsLattice.j1 k x0 x3 x4 false)
def spec_IsLattice.j1 : Nat → List Int → List Int → Int → Bool → Option (Bool)
 | 0, _, _, _, _ => none
 | k + 1, x0, x3, x4, x14 => if x14 = true then (if 0 ≤ x4 then (if x4 < (x0.length : Int) then (if 0 ≤ (rd x0 x4) then (if (rd x0 x4) < (x3.length : Int) then ((some (x3.set ((rd x0 x4) : Int).toNat (wrap64 ((rd x3 (rd x0 x4)) + 1)) : List Int)).bind fun y564 => (if (rd x0 x4) > 1 then (if 0 ≤ (wrap64 ((rd x0 x4) - 1)) then (if (wrap64 ((rd x0 x4) - 1)) < (x3.length : Int) then (if (rd y564 (rd x0 x4)) > (rd y564 (wrap64 ((rd x0 x4) - 1))) then (some false) else (spec_IsLattice.l0 k x0 y564 (wrap64 (x4 - 1)))) else (none)) else (none)) else (spec_IsLattice.l0 k x0 y564 (wrap64 (x4 - 1))))) else (none)) else (none)) else (none)) else (none)) else ((spec_IsWord.f k x0).bind fun t570 => (some t570))
end
def spec_IsLattice.f (k : Nat) (l0 : List Int) : Option (Bool) := if 11 ≤ 35184372088832 then (spec_IsLattice.l0 k l0 (List.replicate 11 0) (wrap64 ((l0.length : Int) - 1))) else (none)
def spec_IsLattice.T5 : Bool × List (List Nat × List Nat) := (true, [([], []), ([], []), ([], []), ([1, 2], [1, 2]), ([3], [3]), ([], []), ([], []), ([], []), ([6, 7], [6, 7]), ([8], [8]), ([5, 9], [5, 9]), ([10], [10]), ([11], [11]), ([0, 4, 0, 1, 2, 3, 4, 5, 6, 7, 8, 9, 10, 11, 12], [0, 4]), ([13, 12, 0, 1, 2, 3, 4, 5, 6, 7, 8, 9, 10, 11, 12], [12, 13])])
def spec_IsLattice.B5 : List Nat := [0, 0, 0, 6, 14, 0, 0, 0, 192, 448, 992, 2016, 4064, 8191, 16383]
theorem spec_IsLattice.tab5 : rtab .any (opsOf Tryz.f20 5) = spec_IsLattice.T5 := by kernel_rfl
theorem spec_IsLattice.bits5 : waitsOk spec_IsLattice.T5.2 spec_IsLattice.B5 = true := by kernel_rfl
def spec_IsLattice.T6 : Bool × List (List Nat × List Nat) := (true, [([], []), ([], []), ([0, 1], [0, 1]), ([2], [2]), ([3], [3]), ([4], [4]), ([5], [5]), ([5], [5]), ([5], [5]), ([7, 8, 5], [5, 7, 8]), ([9, 5], [5, 9]), ([6, 10, 5], [5, 6, 10]), ([11, 5], [5, 11]), ([5], [5]), ([5], [5]), ([5], [5]), ([14, 15, 5], [5, 14, 15]), ([16, 5], [5, 16]), ([17, 5], [5, 17]), ([13, 18, 5], [5, 13, 18]), ([19, 5], [5, 19]), ([12, 20, 5], [5, 12, 20]), ([5, 21], [5, 21])])
def spec_IsLattice.B6 : List Nat := [0, 0, 3, 7, 15, 31, 63, 63, 63, 447, 959, 2047, 4095, 63, 63, 63, 49215, 114751, 245823, 516159, 1040447, 2097151, 4194303]
theorem spec_IsLattice.tab6 : rtab .any (opsOf Tryz.f20 6) = spec_IsLattice.T6 := by kernel_rfl
theorem spec_IsLattice.bits6 : waitsOk spec_IsLattice.T6.2 spec_IsLattice.B6 = true := by kernel_rfl
set_option maxHeartbeats 8000000 in
set_option maxRecDepth 100000 in
theorem spec_IsLattice.calls (k : Nat) (A0 : Option Addr) (c0 : Nat) (l0 : List Int) (r : Bool) (w : World) (hr0 : Kd.C (Kd.int .i64) w A0 l0.length l0) (hc0 : l0.length ≤ c0) (h : spec_IsLattice.f k l0 = some r) :
  Calls Tryz.prog 20 #[.slice A0 l0.length c0] w fun e w' => e = .returned (.bool r) ∧ Below w.heap.size w w' := by
 have HR0 := Aside0.mk hr0
 have HC0 := Aside0.mk hc0
 clear hr0 hc0
 have HB := Aside0.mk (Below.refl w.heap.size w)
 have H : (if 11 ≤ 35184372088832 then (spec_IsLattice.l0 k l0 (List.replicate 11 0) (wrap64 ((l0.length : Int) - 1))) else (none)) = some r := h
 clear h
 by_cases c2 : 11 ≤ 35184372088832
 ·rw [if_pos c2] at H
  have c2b0 := eq_true c2
  have c2b1 : decide (11 ≤ 35184372088832) = true := decide_eq_true c2
  clear c2
  obtain ⟨y557, hy557⟩ : ∃ y_ : List Int, y_ = (List.replicate 11 0) := ⟨_, rfl⟩
  replace H : (spec_IsLattice.l0 k l0 y557 (wrap64 ((l0.length : Int) - 1))) = some r := zY hy557 H
  have Ny557 := Aside0.mk hy557
  clear hy557
  have H' := Aside0.mk H
  clear H
  go_enter Tryz.func20, Tryz.ntmps20
  go_wp2_with (first | ((with_reducible refine gate_dst (N := 5) rfl ?_); refine Kd.R_make (Kd.int .i64) _ 3 rfl (N := 5) rfl 24 _ _ rfl 11 rfl rfl Tryz.underlying24 (.int .i64 0) 8 info3 rfl (by decide) (by omega) 0 (ok := fun _ => True) (okp := fun _ => True) rfl (fun _ hk => hk) trivial (by omega) (by omega) (Below.refl _ _) (Nat.le_refl _) ?_; intro v558 w3 ho4 hb hg_ hnew_; clear hg_ hnew_; (first | rw [← Ny557.out] at ho4 | (simp only [Int.reduceToNat] at ho4; rw [← Ny557.out] at ho4)); have n0_ := Aside0.mk (Kd.R_lower ho4 (below_size (zB HB.out))); have n1_ := Aside0.mk (below_step (zB HB.out) hb); clear HB; have HO559 := n0_; have HB := n1_; clear n0_ n1_; clear hb ho4))
  go_loopg [4] k (fun kq v4 w' => ∃ (x3_1 : List Int) (x4_1 : Int), v4 = .int .i64 x4_1 ∧ Aside0 (spec_IsLattice.l0 kq l0 x3_1 x4_1 = some r) ∧ Aside0 (kq ≤ k) ∧ Aside0 (Kd.R (Kd.int .i64) 3 w' w.heap.size (fun _ => True) v558 x3_1) ∧ Aside0 (Below w.heap.size w w'))
  case atStart => exact ⟨(y557), (wrap64 ((l0.length : Int) - 1)), zs, H', ⟨Nat.le_refl _⟩, ⟨zR HO559.out⟩, ⟨zB HB.out⟩⟩
  case round =>
   clear H'
   try clear c2
   try clear c2b0
   try clear c2b1
   try clear p2
   obtain ⟨x3_1, x4_1, rfl, HA, HK1, HO_3, HB⟩ := hrel
   cases gk with
   | zero => exact absurd HA.out (by simp [spec_IsLattice.l0])
   | succ k1 =>
    have H := HA.out
    clear HA
    simp only [spec_IsLattice.l0] at H
    have HC5 := Aside0.mk H
    clear H
    go_upto_region 3 with (fail)
    go_cut [14] (fun v14 wc => ∃ (kq : Nat) (x14_4 : Bool), v14 = .bool x14_4 ∧ Aside0 (spec_IsLattice.j1 kq l0 x3_1 x4_1 x14_4 = some r) ∧ Aside0 (kq ≤ k1) ∧ Aside0 (Kd.R (Kd.int .i64) 3 wc w.heap.size (fun _ => True) v558 x3_1) ∧ Aside0 (Below w.heap.size w wc))
    case first =>
     have H := HC5.out
     clear HC5
     by_cases c6 : x4_1 ≥ 0
     ·rw [if_pos c6] at H
      have c6b0 : decide (0 ≤ x4_1) = true := decide_eq_true c6
      clear c6
      (first | rw [c6b0] | (simp only [i64_w, i32_w]; rw [c6b0]) | skip)
      replace H := Option.bind_eq_some_iff.mp H
      obtain ⟨t560, A70, H⟩ := H
      replace H : (spec_IsLattice.j1 k1 l0 x3_1 x4_1 t560) = some r := H
      have A7 := Aside0.mk A70
      clear A70
      have H' := Aside0.mk H
      clear H
      go_wp2_with (first | (go_at_call 22; (with_reducible refine (spec_IsWord.calls k1 _ _ l0 t560 _ ?side1 ?side2 A7.out).mono ?_); (case side1 => exact zQ (Kd.C_below HR0.out HB.out)); (case side2 => exact HC0.out); rintro e w' ⟨rfl, ⟨nd, rfl⟩⟩))
      go_meet
      case rel => exact ⟨_, (t560), zs, H', ⟨by have := HK1.out; first | omega | exact Nat.le_refl _⟩, ⟨zR HO_3.out⟩, ⟨zB HB.out⟩⟩
     ·rw [if_neg c6] at H
      have c6b0 : decide (0 ≤ x4_1) = false := decide_eq_false c6
      clear c6
      (first | rw [c6b0] | (simp only [i64_w, i32_w]; rw [c6b0]) | skip)
      have H' := Aside0.mk H
      clear H
      go_wp2
      go_meet
      case rel => exact ⟨_, (false), zs, H', ⟨by have := HK1.out; first | omega | exact Nat.le_refl _⟩, ⟨zR HO_3.out⟩, ⟨zB HB.out⟩⟩
    case rest =>
     clear HC5
     try clear c2
     try clear c2b0
     try clear c2b1
     try clear p2
     try clear c6
     try clear c6b0
     try clear p6
     try clear p2
     obtain ⟨kq, x14_4, rfl, HA, HJ4, HO_3, HB⟩ := hcut
     cases kq with
     | zero => exact absurd HA.out (by simp [spec_IsLattice.j1])
     | succ kj4 =>
      have H := HA.out
      clear HA
      simp only [spec_IsLattice.j1] at H
      by_cases c8 : x14_4 = true
      ·subst c8
       have H1 : (if 0 ≤ x4_1 then (if x4_1 < (l0.length : Int) then (if 0 ≤ (rd l0 x4_1) then (if (rd l0 x4_1) < (x3_1.length : Int) then ((some (x3_1.set ((rd l0 x4_1) : Int).toNat (wrap64 ((rd x3_1 (rd l0 x4_1)) + 1)) : List Int)).bind fun y564 => (if (rd l0 x4_1) > 1 then (if 0 ≤ (wrap64 ((rd l0 x4_1) - 1)) then (if (wrap64 ((rd l0 x4_1) - 1)) < (x3_1.length : Int) then (if (rd y564 (rd l0 x4_1)) > (rd y564 (wrap64 ((rd l0 x4_1) - 1))) then (some false) else (spec_IsLattice.l0 kj4 l0 y564 (wrap64 (x4_1 - 1)))) else (none)) else (none)) else (spec_IsLattice.l0 kj4 l0 y564 (wrap64 (x4_1 - 1))))) else (none)) else (none)) else (none)) else (none)) = some r := by rw [if_pos rfl] at H; exact H
       clear H
       have H := H1
       clear H1
       by_cases c9 : 0 ≤ x4_1
       ·rw [if_pos c9] at H
        have c9b0 : decide (0 ≤ x4_1) = true := decide_eq_true c9
        clear c9
        by_cases c10 : x4_1 < (l0.length : Int)
        ·rw [if_pos c10] at H
         have c10b0 : decide (x4_1 < (l0.length : Int)) = true := decide_eq_true c10
         clear c10
         by_cases c11 : 0 ≤ (rd l0 x4_1)
         ·rw [if_pos c11] at H
          have c11b0 : decide (0 ≤ (rd l0 x4_1)) = true := decide_eq_true c11
          clear c11
          by_cases c12 : (rd l0 x4_1) < (x3_1.length : Int)
          ·rw [if_pos c12] at H
           have c12b0 : decide ((rd l0 x4_1) < (x3_1.length : Int)) = true := decide_eq_true c12
           clear c12
           obtain ⟨y564, hy564⟩ : ∃ y_ : List Int, y_ = (x3_1.set ((rd l0 x4_1) : Int).toNat (wrap64 ((rd x3_1 (rd l0 x4_1)) + 1))) := ⟨_, rfl⟩
           replace H : (if (rd l0 x4_1) > 1 then (if 0 ≤ (wrap64 ((rd l0 x4_1) - 1)) then (if (wrap64 ((rd l0 x4_1) - 1)) < (x3_1.length : Int) then (if (rd y564 (rd l0 x4_1)) > (rd y564 (wrap64 ((rd l0 x4_1) - 1))) then (some false) else (spec_IsLattice.l0 kj4 l0 y564 (wrap64 (x4_1 - 1)))) else (none)) else (none)) else (spec_IsLattice.l0 kj4 l0 y564 (wrap64 (x4_1 - 1)))) = some r := zY hy564 H
           have Ny564 := Aside0.mk hy564
           clear hy564
           by_cases c14 : (rd l0 x4_1) > 1
           ·rw [if_pos c14] at H
            have c14b0 : decide (1 < (rd l0 x4_1)) = true := decide_eq_true c14
            clear c14
            obtain ⟨ji15, hji15⟩ : ∃ j_ : Int, (wrap64 ((rd l0 x4_1) - 1)) = j_ := ⟨_, rfl⟩
            replace H : (if 0 ≤ (ji15) then (if (ji15) < (x3_1.length : Int) then (if (rd y564 (rd l0 x4_1)) > (rd y564 (ji15)) then (some false) else (spec_IsLattice.l0 kj4 l0 y564 (wrap64 (x4_1 - 1)))) else (none)) else (none)) = some r := by first | (rw [hji15] at H; exact H) | (simp only [hji15] at H ⊢; exact H)
            have hji15w : (IntKind.i64.wrap ((rd l0 x4_1) - 1)) = ji15 := (i64_w _).trans hji15
            by_cases c16 : 0 ≤ (ji15)
            ·rw [if_pos c16] at H
             have c16b0 : decide (0 ≤ (ji15)) = true := decide_eq_true c16
             clear c16
             by_cases c17 : (ji15) < (x3_1.length : Int)
             ·rw [if_pos c17] at H
              have c17b0 : decide ((ji15) < (x3_1.length : Int)) = true := decide_eq_true c17
              clear c17
              by_cases c18 : (rd y564 (rd l0 x4_1)) > (rd y564 (ji15))
              ·rw [if_pos c18] at H
               have c18b0 : decide ((rd y564 (ji15)) < (rd y564 (rd l0 x4_1))) = true := decide_eq_true c18
               clear c18
               obtain rfl := Option.some.inj H
               try go_wp2
               have n0_ := Aside0.mk (Kd.R_drew HO_3.out)
               have n1_ := Aside0.mk (below_drew1 HB.out)
               clear HO_3
               clear HB
               have HO_3 := n0_
               have HB := n1_
               clear n0_ n1_
               have p561 : 0 ≤ (x4_1 : Int) := zd
               have q561 : x4_1 < (l0.length : Int) := zd
               obtain ⟨ad561, e561, hx561_0⟩ := Kd.at_int HR0.out x4_1 p561 q561
               have hw561_0 := hx561_0
               cases e561
               replace hx561_0 := (HB.out.cell (World.block_lt_of_cell? w _ hx561_0)).trans hx561_0
               replace p561 := eq_true p561
               replace q561 := eq_true q561
               have p562 : 0 ≤ (x4_1 : Int) := zd
               have q562 : x4_1 < (l0.length : Int) := zd
               obtain ⟨ad562, e562, hx562_0⟩ := Kd.at_int HR0.out x4_1 p562 q562
               have hw562_0 := hx562_0
               obtain rfl : ad561 = ad562 := (by injection e562)
               replace hx562_0 := (HB.out.cell (World.block_lt_of_cell? w _ hx562_0)).trans hx562_0
               replace p562 := eq_true p562
               replace q562 := eq_true q562
               obtain ⟨Ao20, co20, eo20⟩ := Kd.R_slice HO_3.out
               (first | subst eo20 | (injection eo20 with f1_ f2_ f3_; have f4_ := f1_.symm; have f5_ := f3_.symm; clear f1_ f2_ f3_; subst f4_; subst f5_))
               have p563 : 0 ≤ ((rd l0 x4_1) : Int) := zd
               have q563 : (rd l0 x4_1) < (x3_1.length : Int) := zd
               obtain ⟨ad563, e563, hx563_0⟩ := Kd.at_int (Kd.R_reads' HO_3.out).2.2 (rd l0 x4_1) p563 q563
               cases e563
               replace p563 := eq_true p563
               replace q563 := eq_true q563
               have p13 : 0 ≤ ((rd l0 x4_1) : Int) := zd
               have q13 : ((rd l0 x4_1) : Int) < ((x3_1.length : Int) : Int) := zd
               obtain ⟨go13, co13, eo13, gb13, gl13, cl13, HG13⟩ := Kd.R_form HO_3.out (by omega)
               (first | cases eo13 | (injection eo13 with ea_ en_ ec_; (first | subst ea_ | (injection ea_ with ea_; subst ea_)); subst ec_; clear en_))
               have GB13 := Aside0.mk gb13
               have GG13 := Aside0.mk HG13
               clear gb13 gl13 HG13
               (first | simp only [add_plain] at hx563_0 | skip)
               obtain ⟨hx13_0, hf13_0⟩ := Kd.R_celln 0 HO_3.out ((rd l0 x4_1) : Int) p13 q13
               replace p13 := eq_true p13
               replace q13 := eq_true q13
               have HP21 := Kd.R_putn HO_3.out ((rd l0 x4_1) : Int) (wrap64 ((rd x3_1 (rd l0 x4_1)) + 1))
               rw [← Ny564.out] at HP21
               have HQ21 := Aside0.mk HP21
               clear HP21
               refine start_ (n := 15) (S := fun w' => w'.cell? (ad561.add (x4_1).toNat) = some (.int .i64 (rd l0 x4_1)) ∧ w'.cell? (ad561.add (x4_1).toNat) = some (.int .i64 (rd l0 x4_1)) ∧ w'.cell? ⟨go13, ((rd l0 x4_1)).toNat, none⟩ = some (.int .i64 (rd x3_1 (rd l0 x4_1)))) (ds := [14]) zB13_0 (by kernel_rfl) rfl rfl ⟨((HB.out.cell (World.block_lt_of_cell? w _ hw561_0)).trans hw561_0), ((HB.out.cell (World.block_lt_of_cell? w _ hw562_0)).trans hw562_0), hx563_0⟩ (fun hHeld => ?_); refine with_tabW spec_IsLattice.tab5 spec_IsLattice.bits5 (fun HT_ HW_ => ?_)
               generalize wc.drew = w19 at HO_3 HB GG13 HQ21 hf13_0 hx13_0 hx561_0 hx562_0 hx563_0 hHeld ⊢
               refine zP (i := 0) (N := some 17) zB13_1 (zk HT_.out) ?_
               refine zP (i := 1) (N := some 18) zB13_2 (zk HT_.out) ?_
               refine zP (i := 2) (N := some 19) zB13_3 (zk HT_.out) ?_
               refine zP (i := 3) (N := some 20) zB13_4 (zk HT_.out) ?_
               refine zP (i := 5) (N := some 22) zB13_5 (zk HT_.out) ?_
               refine zP (i := 6) (N := some 23) zB13_6 (zk HT_.out) ?_
               refine zP (i := 7) (N := some 24) zB13_7 (zk HT_.out) ?_
               refine zP (i := 8) (N := some 25) zB13_8 (zk HT_.out) ?_
               refine zT3 (i := 4) (N := some 21) zB13_9 (take_ofW HT_.out HW_.out (by kernel_rfl)) hHeld ?_
               refine zT3 (i := 9) (N := some 26) zB13_10 (take_ofW HT_.out HW_.out (by kernel_rfl)) hHeld ?_
               refine zP (i := 10) (N := some 27) zB13_11 (zk HT_.out) ?_
               refine zT3 (i := 11) (N := some 28) zB13_12 (take_ofW HT_.out HW_.out (by kernel_rfl)) hHeld ?_
               refine zP (i := 12) (N := some 29) zB13_13 (zk HT_.out) ?_
               refine zP (i := 13) (N := some 30) zB13_14 (zk HT_.out) ?_
               refine last_ (i := 14) (N := none) zB13_15 rfl rfl (one_of HT_.out (by kernel_rfl)) (by decide) (fun K hK => ?_)
               refine skip_ (w1 := ?_) (by rfl) rfl ?_ ?_
               rotate_left
               ·go_simp
                rfl
               refine hK.out _ _ ?_
               clear hK K
               refine done_ (done_of HT_.out (by kernel_rfl)) ?_
               try go_wp2
               have n0_ : Aside0 (Kd.R (Kd.int .i64) 3 (w19.setCell ⟨go13, ((rd l0 x4_1) : Int).toNat, none⟩ (.int .i64 (wrap64 ((rd x3_1 (rd l0 x4_1)) + 1)))) w.heap.size (fun _ => True) (.slice (some ⟨go13, 0, none⟩) x3_1.length co20) y564) := ⟨zR HQ21.out⟩
               have n1_ : Aside0 (Below w.heap.size w (w19.setCell ⟨go13, ((rd l0 x4_1) : Int).toNat, none⟩ (.int .i64 (wrap64 ((rd x3_1 (rd l0 x4_1)) + 1))))) := ⟨zB1 HB.out GB13.out⟩
               (try clear HO_3)
               (try clear HB)
               generalize (w19.setCell ⟨go13, ((rd l0 x4_1) : Int).toNat, none⟩ (.int .i64 (wrap64 ((rd x3_1 (rd l0 x4_1)) + 1)))) = w22 at n0_ n1_ ⊢
               have HO_3 := n0_
               have HB := n1_
               clear n0_ n1_
               have n0_ := Aside0.mk (Kd.R_drew HO_3.out)
               have n1_ := Aside0.mk (below_drew1 HB.out)
               clear HO_3
               clear HB
               have HO_3 := n0_
               have HB := n1_
               clear n0_ n1_
               have p565 : 0 ≤ (x4_1 : Int) := zd
               have q565 : x4_1 < (l0.length : Int) := zd
               obtain ⟨ad565, e565, hx565_0⟩ := Kd.at_int HR0.out x4_1 p565 q565
               have hw565_0 := hx565_0
               obtain rfl : ad561 = ad565 := (by injection e565)
               replace hx565_0 := (HB.out.cell (World.block_lt_of_cell? w _ hx565_0)).trans hx565_0
               replace p565 := eq_true p565
               replace q565 := eq_true q565
               have p566 : 0 ≤ (x4_1 : Int) := zd
               have q566 : x4_1 < (l0.length : Int) := zd
               obtain ⟨ad566, e566, hx566_0⟩ := Kd.at_int HR0.out x4_1 p566 q566
               have hw566_0 := hx566_0
               obtain rfl : ad561 = ad566 := (by injection e566)
               replace hx566_0 := (HB.out.cell (World.block_lt_of_cell? w _ hx566_0)).trans hx566_0
               replace p566 := eq_true p566
               replace q566 := eq_true q566
               have p567 : 0 ≤ ((rd l0 x4_1) : Int) := zd
               have q567 : (rd l0 x4_1) < (y564.length : Int) := (by have h_ : ((rd l0 x4_1) : Int) < ((x3_1.length : Int) : Int) := zd; first | (have e_ := (Kd.R_reads' HO_3.out).1; omega) | simpa only [Ny564.out, List.length_set] using h_)
               have ql567 : (((rd l0 x4_1) : Int) < ((x3_1.length : Int) : Int)) = True := eq_true (zd)
               obtain ⟨ad567, e567, hx567_0⟩ := Kd.at_int (Kd.R_reads' HO_3.out).2.2 (rd l0 x4_1) p567 q567
               obtain rfl : (⟨go13, 0, none⟩ : Addr) = ad567 := (by injection e567)
               (first | simp only [add_plain] at hx567_0 | simp only [add_at] at hx567_0 | simp only [Addr.add, Nat.zero_add] at hx567_0 | skip)
               replace p567 := eq_true p567
               replace q567 := eq_true q567
               have p568 : 0 ≤ (x4_1 : Int) := zd
               have q568 : x4_1 < (l0.length : Int) := zd
               obtain ⟨ad568, e568, hx568_0⟩ := Kd.at_int HR0.out x4_1 p568 q568
               have hw568_0 := hx568_0
               obtain rfl : ad561 = ad568 := (by injection e568)
               replace hx568_0 := (HB.out.cell (World.block_lt_of_cell? w _ hx568_0)).trans hx568_0
               replace p568 := eq_true p568
               replace q568 := eq_true q568
               have p569 : 0 ≤ ((ji15) : Int) := zd
               have q569 : (ji15) < (y564.length : Int) := (by have h_ : ((ji15) : Int) < ((x3_1.length : Int) : Int) := zd; first | (have e_ := (Kd.R_reads' HO_3.out).1; omega) | simpa only [Ny564.out, List.length_set] using h_)
               have ql569 : (((ji15) : Int) < ((x3_1.length : Int) : Int)) = True := eq_true (zd)
               obtain ⟨ad569, e569, hx569_0⟩ := Kd.at_int (Kd.R_reads' HO_3.out).2.2 (ji15) p569 q569
               obtain rfl : (⟨go13, 0, none⟩ : Addr) = ad569 := (by injection e569)
               (first | simp only [add_plain] at hx569_0 | simp only [add_at] at hx569_0 | simp only [Addr.add, Nat.zero_add] at hx569_0 | skip)
               replace p569 := eq_true p569
               replace q569 := eq_true q569
               refine start_ (n := 23) (S := fun w' => w'.cell? (ad561.add (x4_1).toNat) = some (.int .i64 (rd l0 x4_1)) ∧ w'.cell? (ad561.add (x4_1).toNat) = some (.int .i64 (rd l0 x4_1)) ∧ w'.cell? ⟨go13, ((rd l0 x4_1)).toNat, none⟩ = some (.int .i64 (rd y564 (rd l0 x4_1))) ∧ w'.cell? (ad561.add (x4_1).toNat) = some (.int .i64 (rd l0 x4_1)) ∧ w'.cell? ⟨go13, ((ji15)).toNat, none⟩ = some (.int .i64 (rd y564 (ji15)))) (ds := []) zB13_16 (by kernel_rfl) rfl rfl ⟨((HB.out.cell (World.block_lt_of_cell? w _ hw565_0)).trans hw565_0), ((HB.out.cell (World.block_lt_of_cell? w _ hw566_0)).trans hw566_0), hx567_0, ((HB.out.cell (World.block_lt_of_cell? w _ hw568_0)).trans hw568_0), hx569_0⟩ (fun hHeld => ?_); refine with_tabW spec_IsLattice.tab6 spec_IsLattice.bits6 (fun HT_ HW_ => ?_)
               generalize w22.drew = w23 at HO_3 HB HQ21 hx565_0 hx566_0 hx567_0 hx568_0 hx569_0 hHeld ⊢
               refine zP (i := 0) (N := some 31) zB13_17 (zk HT_.out) ?_
               refine zP (i := 1) (N := some 32) zB13_18 (zk HT_.out) ?_
               refine zP (i := 2) (N := some 33) zB13_19 (zk HT_.out) ?_
               refine take_ (i := 3) (N := some 34) (v := ?_) (a' := ?_) zB13_20 rfl rfl (take_ofW HT_.out HW_.out (by kernel_rfl)) (fun _ _ _ h => h) (Or.inl ⟨by rfl, ?_⟩) hHeld ?_ ?_
               rotate_left
               ·rintro w' ⟨s0, s1, s2, s3, s4⟩
                go_simp
                with_reducible rfl
               rotate_left
               ·simp only [Act.put, List.setIfInBounds_toArray, List.set_cons_zero, List.set_cons_succ, i64_w, i32_w]
                rfl
               refine zP (i := 4) (N := some 35) zB13_21 (zk HT_.out) ?_
               refine zP (i := 5) (N := some 36) zB13_22 (zk HT_.out) ?_
               refine zP (i := 6) (N := some 37) zB13_23 (zk HT_.out) ?_
               refine zP (i := 7) (N := some 38) zB13_24 (zk HT_.out) ?_
               refine zP (i := 8) (N := some 39) zB13_25 (zk HT_.out) ?_
               refine zP (i := 9) (N := some 40) zB13_26 (zk HT_.out) ?_
               refine zP (i := 13) (N := some 44) zB13_27 (zk HT_.out) ?_
               refine zP (i := 14) (N := some 45) zB13_28 (zk HT_.out) ?_
               refine zP (i := 15) (N := some 46) zB13_29 (zk HT_.out) ?_
               refine zP (i := 16) (N := some 47) zB13_30 (zk HT_.out) ?_
               refine take_ (i := 10) (N := some 41) (v := ?_) (a' := ?_) zB13_31 rfl rfl (take_ofW HT_.out HW_.out (by kernel_rfl)) (fun _ _ _ h => h) (Or.inl ⟨by rfl, ?_⟩) hHeld ?_ ?_
               rotate_left
               ·rintro w' ⟨s0, s1, s2, s3, s4⟩
                go_simp
                with_reducible rfl
               rotate_left
               ·simp only [Act.put, List.setIfInBounds_toArray, List.set_cons_zero, List.set_cons_succ, i64_w, i32_w]
                rfl
               refine zP (i := 11) (N := some 42) zB13_32 (zk HT_.out) ?_
               refine take_ (i := 12) (N := some 43) (v := ?_) (a' := ?_) zB13_33 rfl rfl (take_ofW HT_.out HW_.out (by kernel_rfl)) (fun _ _ _ h => h) (Or.inl ⟨by rfl, ?_⟩) hHeld ?_ ?_
               rotate_left
               ·rintro w' ⟨s0, s1, s2, s3, s4⟩
                go_simp
                with_reducible rfl
               rotate_left
               ·simp only [Act.put, List.setIfInBounds_toArray, List.set_cons_zero, List.set_cons_succ, i64_w, i32_w]
                rfl
               refine take_ (i := 17) (N := some 48) (v := ?_) (a' := ?_) zB13_34 rfl rfl (take_ofW HT_.out HW_.out (by kernel_rfl)) (fun _ _ _ h => h) (Or.inl ⟨by rfl, ?_⟩) hHeld ?_ ?_
               rotate_left
               ·rintro w' ⟨s0, s1, s2, s3, s4⟩
                go_simp
                with_reducible rfl
               rotate_left
               ·simp only [Act.put, List.setIfInBounds_toArray, List.set_cons_zero, List.set_cons_succ, i64_w, i32_w]
                rfl
               refine zP (i := 18) (N := some 49) zB13_35 (zk HT_.out) ?_
               refine zP (i := 19) (N := some 50) zB13_36 (zk HT_.out) ?_
               refine take_ (i := 20) (N := some 51) (v := ?_) (a' := ?_) zB13_37 rfl rfl (take_ofW HT_.out HW_.out (by kernel_rfl)) (fun _ _ _ h => h) (Or.inl ⟨by rfl, ?_⟩) hHeld ?_ ?_
               rotate_left
               ·rintro w' ⟨s0, s1, s2, s3, s4⟩
                go_simp
                with_reducible rfl
               rotate_left
               ·simp only [Act.put, List.setIfInBounds_toArray, List.set_cons_zero, List.set_cons_succ, i64_w, i32_w]
                rfl
               refine zP (i := 21) (N := some 52) zB13_38 (zk HT_.out) ?_
               refine zP (i := 22) (N := some 53) zB13_39 (zk HT_.out) ?_
               refine done_ (done_of HT_.out (by kernel_rfl)) ?_
               try go_wp2
               go_ret
               exact ⟨by first | rfl | (simp [errW_none, errW_some] <;> rfl) | (simp only [← hji15]; first | rfl | (simp [errW_none, errW_some] <;> rfl)) | (simp [*, errW_none, errW_some] <;> rfl), zB HB.out⟩
              ·rw [if_neg c18] at H
               have c18b0 : decide ((rd y564 (ji15)) < (rd y564 (rd l0 x4_1))) = false := decide_eq_false c18
               clear c18
               have H' := Aside0.mk H
               clear H
               try go_wp2
               have n0_ := Aside0.mk (Kd.R_drew HO_3.out)
               have n1_ := Aside0.mk (below_drew1 HB.out)
               clear HO_3
               clear HB
               have HO_3 := n0_
               have HB := n1_
               clear n0_ n1_
               have p561 : 0 ≤ (x4_1 : Int) := zd
               have q561 : x4_1 < (l0.length : Int) := zd
               obtain ⟨ad561, e561, hx561_0⟩ := Kd.at_int HR0.out x4_1 p561 q561
               have hw561_0 := hx561_0
               cases e561
               replace hx561_0 := (HB.out.cell (World.block_lt_of_cell? w _ hx561_0)).trans hx561_0
               replace p561 := eq_true p561
               replace q561 := eq_true q561
               have p562 : 0 ≤ (x4_1 : Int) := zd
               have q562 : x4_1 < (l0.length : Int) := zd
               obtain ⟨ad562, e562, hx562_0⟩ := Kd.at_int HR0.out x4_1 p562 q562
               have hw562_0 := hx562_0
               obtain rfl : ad561 = ad562 := (by injection e562)
               replace hx562_0 := (HB.out.cell (World.block_lt_of_cell? w _ hx562_0)).trans hx562_0
               replace p562 := eq_true p562
               replace q562 := eq_true q562
               obtain ⟨Ao25, co25, eo25⟩ := Kd.R_slice HO_3.out
               (first | subst eo25 | (injection eo25 with f1_ f2_ f3_; have f4_ := f1_.symm; have f5_ := f3_.symm; clear f1_ f2_ f3_; subst f4_; subst f5_))
               have p563 : 0 ≤ ((rd l0 x4_1) : Int) := zd
               have q563 : (rd l0 x4_1) < (x3_1.length : Int) := zd
               obtain ⟨ad563, e563, hx563_0⟩ := Kd.at_int (Kd.R_reads' HO_3.out).2.2 (rd l0 x4_1) p563 q563
               cases e563
               replace p563 := eq_true p563
               replace q563 := eq_true q563
               have p13 : 0 ≤ ((rd l0 x4_1) : Int) := zd
               have q13 : ((rd l0 x4_1) : Int) < ((x3_1.length : Int) : Int) := zd
               obtain ⟨go13, co13, eo13, gb13, gl13, cl13, HG13⟩ := Kd.R_form HO_3.out (by omega)
               (first | cases eo13 | (injection eo13 with ea_ en_ ec_; (first | subst ea_ | (injection ea_ with ea_; subst ea_)); subst ec_; clear en_))
               have GB13 := Aside0.mk gb13
               have GG13 := Aside0.mk HG13
               clear gb13 gl13 HG13
               (first | simp only [add_plain] at hx563_0 | skip)
               obtain ⟨hx13_0, hf13_0⟩ := Kd.R_celln 0 HO_3.out ((rd l0 x4_1) : Int) p13 q13
               replace p13 := eq_true p13
               replace q13 := eq_true q13
               have HP26 := Kd.R_putn HO_3.out ((rd l0 x4_1) : Int) (wrap64 ((rd x3_1 (rd l0 x4_1)) + 1))
               rw [← Ny564.out] at HP26
               have HQ26 := Aside0.mk HP26
               clear HP26
               refine start_ (n := 15) (S := fun w' => w'.cell? (ad561.add (x4_1).toNat) = some (.int .i64 (rd l0 x4_1)) ∧ w'.cell? (ad561.add (x4_1).toNat) = some (.int .i64 (rd l0 x4_1)) ∧ w'.cell? ⟨go13, ((rd l0 x4_1)).toNat, none⟩ = some (.int .i64 (rd x3_1 (rd l0 x4_1)))) (ds := [14]) zB13_0 (by kernel_rfl) rfl rfl ⟨((HB.out.cell (World.block_lt_of_cell? w _ hw561_0)).trans hw561_0), ((HB.out.cell (World.block_lt_of_cell? w _ hw562_0)).trans hw562_0), hx563_0⟩ (fun hHeld => ?_); refine with_tabW spec_IsLattice.tab5 spec_IsLattice.bits5 (fun HT_ HW_ => ?_)
               generalize wc.drew = w24 at HO_3 HB GG13 HQ26 hf13_0 hx13_0 hx561_0 hx562_0 hx563_0 hHeld ⊢
               refine zP (i := 0) (N := some 17) zB13_1 (zk HT_.out) ?_
               refine zP (i := 1) (N := some 18) zB13_2 (zk HT_.out) ?_
               refine zP (i := 2) (N := some 19) zB13_3 (zk HT_.out) ?_
               refine zP (i := 3) (N := some 20) zB13_4 (zk HT_.out) ?_
               refine zP (i := 5) (N := some 22) zB13_5 (zk HT_.out) ?_
               refine zP (i := 6) (N := some 23) zB13_6 (zk HT_.out) ?_
               refine zP (i := 7) (N := some 24) zB13_7 (zk HT_.out) ?_
               refine zP (i := 8) (N := some 25) zB13_8 (zk HT_.out) ?_
               refine zT3 (i := 4) (N := some 21) zB13_9 (take_ofW HT_.out HW_.out (by kernel_rfl)) hHeld ?_
               refine zT3 (i := 9) (N := some 26) zB13_10 (take_ofW HT_.out HW_.out (by kernel_rfl)) hHeld ?_
               refine zP (i := 10) (N := some 27) zB13_11 (zk HT_.out) ?_
               refine zT3 (i := 11) (N := some 28) zB13_12 (take_ofW HT_.out HW_.out (by kernel_rfl)) hHeld ?_
               refine zP (i := 12) (N := some 29) zB13_13 (zk HT_.out) ?_
               refine zP (i := 13) (N := some 30) zB13_14 (zk HT_.out) ?_
               refine last_ (i := 14) (N := none) zB13_15 rfl rfl (one_of HT_.out (by kernel_rfl)) (by decide) (fun K hK => ?_)
               refine skip_ (w1 := ?_) (by rfl) rfl ?_ ?_
               rotate_left
               ·go_simp
                rfl
               refine hK.out _ _ ?_
               clear hK K
               refine done_ (done_of HT_.out (by kernel_rfl)) ?_
               try go_wp2
               have n0_ : Aside0 (Kd.R (Kd.int .i64) 3 (w24.setCell ⟨go13, ((rd l0 x4_1) : Int).toNat, none⟩ (.int .i64 (wrap64 ((rd x3_1 (rd l0 x4_1)) + 1)))) w.heap.size (fun _ => True) (.slice (some ⟨go13, 0, none⟩) x3_1.length co25) y564) := ⟨zR HQ26.out⟩
               have n1_ : Aside0 (Below w.heap.size w (w24.setCell ⟨go13, ((rd l0 x4_1) : Int).toNat, none⟩ (.int .i64 (wrap64 ((rd x3_1 (rd l0 x4_1)) + 1))))) := ⟨zB1 HB.out GB13.out⟩
               (try clear HO_3)
               (try clear HB)
               generalize (w24.setCell ⟨go13, ((rd l0 x4_1) : Int).toNat, none⟩ (.int .i64 (wrap64 ((rd x3_1 (rd l0 x4_1)) + 1)))) = w27 at n0_ n1_ ⊢
               have HO_3 := n0_
               have HB := n1_
               clear n0_ n1_
               have n0_ := Aside0.mk (Kd.R_drew HO_3.out)
               have n1_ := Aside0.mk (below_drew1 HB.out)
               clear HO_3
               clear HB
               have HO_3 := n0_
               have HB := n1_
               clear n0_ n1_
               have p565 : 0 ≤ (x4_1 : Int) := zd
               have q565 : x4_1 < (l0.length : Int) := zd
               obtain ⟨ad565, e565, hx565_0⟩ := Kd.at_int HR0.out x4_1 p565 q565
               have hw565_0 := hx565_0
               obtain rfl : ad561 = ad565 := (by injection e565)
               replace hx565_0 := (HB.out.cell (World.block_lt_of_cell? w _ hx565_0)).trans hx565_0
               replace p565 := eq_true p565
               replace q565 := eq_true q565
               have p566 : 0 ≤ (x4_1 : Int) := zd
               have q566 : x4_1 < (l0.length : Int) := zd
               obtain ⟨ad566, e566, hx566_0⟩ := Kd.at_int HR0.out x4_1 p566 q566
               have hw566_0 := hx566_0
               obtain rfl : ad561 = ad566 := (by injection e566)
               replace hx566_0 := (HB.out.cell (World.block_lt_of_cell? w _ hx566_0)).trans hx566_0
               replace p566 := eq_true p566
               replace q566 := eq_true q566
               have p567 : 0 ≤ ((rd l0 x4_1) : Int) := zd
               have q567 : (rd l0 x4_1) < (y564.length : Int) := (by have h_ : ((rd l0 x4_1) : Int) < ((x3_1.length : Int) : Int) := zd; first | (have e_ := (Kd.R_reads' HO_3.out).1; omega) | simpa only [Ny564.out, List.length_set] using h_)
               have ql567 : (((rd l0 x4_1) : Int) < ((x3_1.length : Int) : Int)) = True := eq_true (zd)
               obtain ⟨ad567, e567, hx567_0⟩ := Kd.at_int (Kd.R_reads' HO_3.out).2.2 (rd l0 x4_1) p567 q567
               obtain rfl : (⟨go13, 0, none⟩ : Addr) = ad567 := (by injection e567)
               (first | simp only [add_plain] at hx567_0 | simp only [add_at] at hx567_0 | simp only [Addr.add, Nat.zero_add] at hx567_0 | skip)
               replace p567 := eq_true p567
               replace q567 := eq_true q567
               have p568 : 0 ≤ (x4_1 : Int) := zd
               have q568 : x4_1 < (l0.length : Int) := zd
               obtain ⟨ad568, e568, hx568_0⟩ := Kd.at_int HR0.out x4_1 p568 q568
               have hw568_0 := hx568_0
               obtain rfl : ad561 = ad568 := (by injection e568)
               replace hx568_0 := (HB.out.cell (World.block_lt_of_cell? w _ hx568_0)).trans hx568_0
               replace p568 := eq_true p568
               replace q568 := eq_true q568
               have p569 : 0 ≤ ((ji15) : Int) := zd
               have q569 : (ji15) < (y564.length : Int) := (by have h_ : ((ji15) : Int) < ((x3_1.length : Int) : Int) := zd; first | (have e_ := (Kd.R_reads' HO_3.out).1; omega) | simpa only [Ny564.out, List.length_set] using h_)
               have ql569 : (((ji15) : Int) < ((x3_1.length : Int) : Int)) = True := eq_true (zd)
               obtain ⟨ad569, e569, hx569_0⟩ := Kd.at_int (Kd.R_reads' HO_3.out).2.2 (ji15) p569 q569
               obtain rfl : (⟨go13, 0, none⟩ : Addr) = ad569 := (by injection e569)
               (first | simp only [add_plain] at hx569_0 | simp only [add_at] at hx569_0 | simp only [Addr.add, Nat.zero_add] at hx569_0 | skip)
               replace p569 := eq_true p569
               replace q569 := eq_true q569
               refine start_ (n := 23) (S := fun w' => w'.cell? (ad561.add (x4_1).toNat) = some (.int .i64 (rd l0 x4_1)) ∧ w'.cell? (ad561.add (x4_1).toNat) = some (.int .i64 (rd l0 x4_1)) ∧ w'.cell? ⟨go13, ((rd l0 x4_1)).toNat, none⟩ = some (.int .i64 (rd y564 (rd l0 x4_1))) ∧ w'.cell? (ad561.add (x4_1).toNat) = some (.int .i64 (rd l0 x4_1)) ∧ w'.cell? ⟨go13, ((ji15)).toNat, none⟩ = some (.int .i64 (rd y564 (ji15)))) (ds := []) zB13_16 (by kernel_rfl) rfl rfl ⟨((HB.out.cell (World.block_lt_of_cell? w _ hw565_0)).trans hw565_0), ((HB.out.cell (World.block_lt_of_cell? w _ hw566_0)).trans hw566_0), hx567_0, ((HB.out.cell (World.block_lt_of_cell? w _ hw568_0)).trans hw568_0), hx569_0⟩ (fun hHeld => ?_); refine with_tabW spec_IsLattice.tab6 spec_IsLattice.bits6 (fun HT_ HW_ => ?_)
               generalize w27.drew = w28 at HO_3 HB HQ26 hx565_0 hx566_0 hx567_0 hx568_0 hx569_0 hHeld ⊢
               refine zP (i := 0) (N := some 31) zB13_17 (zk HT_.out) ?_
               refine zP (i := 1) (N := some 32) zB13_18 (zk HT_.out) ?_
               refine zP (i := 2) (N := some 33) zB13_19 (zk HT_.out) ?_
               refine take_ (i := 3) (N := some 34) (v := ?_) (a' := ?_) zB13_20 rfl rfl (take_ofW HT_.out HW_.out (by kernel_rfl)) (fun _ _ _ h => h) (Or.inl ⟨by rfl, ?_⟩) hHeld ?_ ?_
               rotate_left
               ·rintro w' ⟨s0, s1, s2, s3, s4⟩
                go_simp
                with_reducible rfl
               rotate_left
               ·simp only [Act.put, List.setIfInBounds_toArray, List.set_cons_zero, List.set_cons_succ, i64_w, i32_w]
                rfl
               refine zP (i := 4) (N := some 35) zB13_21 (zk HT_.out) ?_
               refine zP (i := 5) (N := some 36) zB13_22 (zk HT_.out) ?_
               refine zP (i := 6) (N := some 37) zB13_23 (zk HT_.out) ?_
               refine zP (i := 7) (N := some 38) zB13_24 (zk HT_.out) ?_
               refine zP (i := 8) (N := some 39) zB13_25 (zk HT_.out) ?_
               refine zP (i := 9) (N := some 40) zB13_26 (zk HT_.out) ?_
               refine zP (i := 13) (N := some 44) zB13_27 (zk HT_.out) ?_
               refine zP (i := 14) (N := some 45) zB13_28 (zk HT_.out) ?_
               refine zP (i := 15) (N := some 46) zB13_29 (zk HT_.out) ?_
               refine zP (i := 16) (N := some 47) zB13_30 (zk HT_.out) ?_
               refine take_ (i := 10) (N := some 41) (v := ?_) (a' := ?_) zB13_31 rfl rfl (take_ofW HT_.out HW_.out (by kernel_rfl)) (fun _ _ _ h => h) (Or.inl ⟨by rfl, ?_⟩) hHeld ?_ ?_
               rotate_left
               ·rintro w' ⟨s0, s1, s2, s3, s4⟩
                go_simp
                with_reducible rfl
               rotate_left
               ·simp only [Act.put, List.setIfInBounds_toArray, List.set_cons_zero, List.set_cons_succ, i64_w, i32_w]
                rfl
               refine zP (i := 11) (N := some 42) zB13_32 (zk HT_.out) ?_
               refine take_ (i := 12) (N := some 43) (v := ?_) (a' := ?_) zB13_33 rfl rfl (take_ofW HT_.out HW_.out (by kernel_rfl)) (fun _ _ _ h => h) (Or.inl ⟨by rfl, ?_⟩) hHeld ?_ ?_
               rotate_left
               ·rintro w' ⟨s0, s1, s2, s3, s4⟩
                go_simp
                with_reducible rfl
               rotate_left
               ·simp only [Act.put, List.setIfInBounds_toArray, List.set_cons_zero, List.set_cons_succ, i64_w, i32_w]
                rfl
               refine take_ (i := 17) (N := some 48) (v := ?_) (a' := ?_) zB13_34 rfl rfl (take_ofW HT_.out HW_.out (by kernel_rfl)) (fun _ _ _ h => h) (Or.inl ⟨by rfl, ?_⟩) hHeld ?_ ?_
               rotate_left
               ·rintro w' ⟨s0, s1, s2, s3, s4⟩
                go_simp
                with_reducible rfl
               rotate_left
               ·simp only [Act.put, List.setIfInBounds_toArray, List.set_cons_zero, List.set_cons_succ, i64_w, i32_w]
                rfl
               refine zP (i := 18) (N := some 49) zB13_35 (zk HT_.out) ?_
               refine zP (i := 19) (N := some 50) zB13_36 (zk HT_.out) ?_
               refine take_ (i := 20) (N := some 51) (v := ?_) (a' := ?_) zB13_37 rfl rfl (take_ofW HT_.out HW_.out (by kernel_rfl)) (fun _ _ _ h => h) (Or.inl ⟨by rfl, ?_⟩) hHeld ?_ ?_
               rotate_left
               ·rintro w' ⟨s0, s1, s2, s3, s4⟩
                go_simp
                with_reducible rfl
               rotate_left
               ·simp only [Act.put, List.setIfInBounds_toArray, List.set_cons_zero, List.set_cons_succ, i64_w, i32_w]
                rfl
               refine zP (i := 21) (N := some 52) zB13_38 (zk HT_.out) ?_
               refine zP (i := 22) (N := some 53) zB13_39 (zk HT_.out) ?_
               refine done_ (done_of HT_.out (by kernel_rfl)) ?_
               try go_wp2
               go_roundg kj4
               case measure => have := HK1.out; have := HJ4.out; omega
               case rel => exact ⟨(y564), (wrap64 (x4_1 - 1)), zs, H', ⟨by have := HK1.out; have := HJ4.out; omega⟩, ⟨zR HO_3.out⟩, ⟨zB HB.out⟩⟩
             ·rw [if_neg c17] at H
              exact absurd H (by simp)
            ·rw [if_neg c16] at H
             exact absurd H (by simp)
           ·rw [if_neg c14] at H
            have c14b0 : decide (1 < (rd l0 x4_1)) = false := decide_eq_false c14
            clear c14
            have H' := Aside0.mk H
            clear H
            try go_wp2
            have n0_ := Aside0.mk (Kd.R_drew HO_3.out)
            have n1_ := Aside0.mk (below_drew1 HB.out)
            clear HO_3
            clear HB
            have HO_3 := n0_
            have HB := n1_
            clear n0_ n1_
            have p561 : 0 ≤ (x4_1 : Int) := zd
            have q561 : x4_1 < (l0.length : Int) := zd
            obtain ⟨ad561, e561, hx561_0⟩ := Kd.at_int HR0.out x4_1 p561 q561
            have hw561_0 := hx561_0
            cases e561
            replace hx561_0 := (HB.out.cell (World.block_lt_of_cell? w _ hx561_0)).trans hx561_0
            replace p561 := eq_true p561
            replace q561 := eq_true q561
            have p562 : 0 ≤ (x4_1 : Int) := zd
            have q562 : x4_1 < (l0.length : Int) := zd
            obtain ⟨ad562, e562, hx562_0⟩ := Kd.at_int HR0.out x4_1 p562 q562
            have hw562_0 := hx562_0
            obtain rfl : ad561 = ad562 := (by injection e562)
            replace hx562_0 := (HB.out.cell (World.block_lt_of_cell? w _ hx562_0)).trans hx562_0
            replace p562 := eq_true p562
            replace q562 := eq_true q562
            obtain ⟨Ao30, co30, eo30⟩ := Kd.R_slice HO_3.out
            (first | subst eo30 | (injection eo30 with f1_ f2_ f3_; have f4_ := f1_.symm; have f5_ := f3_.symm; clear f1_ f2_ f3_; subst f4_; subst f5_))
            have p563 : 0 ≤ ((rd l0 x4_1) : Int) := zd
            have q563 : (rd l0 x4_1) < (x3_1.length : Int) := zd
            obtain ⟨ad563, e563, hx563_0⟩ := Kd.at_int (Kd.R_reads' HO_3.out).2.2 (rd l0 x4_1) p563 q563
            cases e563
            replace p563 := eq_true p563
            replace q563 := eq_true q563
            have p13 : 0 ≤ ((rd l0 x4_1) : Int) := zd
            have q13 : ((rd l0 x4_1) : Int) < ((x3_1.length : Int) : Int) := zd
            obtain ⟨go13, co13, eo13, gb13, gl13, cl13, HG13⟩ := Kd.R_form HO_3.out (by omega)
            (first | cases eo13 | (injection eo13 with ea_ en_ ec_; (first | subst ea_ | (injection ea_ with ea_; subst ea_)); subst ec_; clear en_))
            have GB13 := Aside0.mk gb13
            have GG13 := Aside0.mk HG13
            clear gb13 gl13 HG13
            (first | simp only [add_plain] at hx563_0 | skip)
            obtain ⟨hx13_0, hf13_0⟩ := Kd.R_celln 0 HO_3.out ((rd l0 x4_1) : Int) p13 q13
            replace p13 := eq_true p13
            replace q13 := eq_true q13
            have HP31 := Kd.R_putn HO_3.out ((rd l0 x4_1) : Int) (wrap64 ((rd x3_1 (rd l0 x4_1)) + 1))
            rw [← Ny564.out] at HP31
            have HQ31 := Aside0.mk HP31
            clear HP31
            refine start_ (n := 15) (S := fun w' => w'.cell? (ad561.add (x4_1).toNat) = some (.int .i64 (rd l0 x4_1)) ∧ w'.cell? (ad561.add (x4_1).toNat) = some (.int .i64 (rd l0 x4_1)) ∧ w'.cell? ⟨go13, ((rd l0 x4_1)).toNat, none⟩ = some (.int .i64 (rd x3_1 (rd l0 x4_1)))) (ds := [14]) zB13_0 (by kernel_rfl) rfl rfl ⟨((HB.out.cell (World.block_lt_of_cell? w _ hw561_0)).trans hw561_0), ((HB.out.cell (World.block_lt_of_cell? w _ hw562_0)).trans hw562_0), hx563_0⟩ (fun hHeld => ?_); refine with_tabW spec_IsLattice.tab5 spec_IsLattice.bits5 (fun HT_ HW_ => ?_)
            generalize wc.drew = w29 at HO_3 HB GG13 HQ31 hf13_0 hx13_0 hx561_0 hx562_0 hx563_0 hHeld ⊢
            refine zP (i := 0) (N := some 17) zB13_1 (zk HT_.out) ?_
            refine zP (i := 1) (N := some 18) zB13_2 (zk HT_.out) ?_
            refine zP (i := 2) (N := some 19) zB13_3 (zk HT_.out) ?_
            refine zP (i := 3) (N := some 20) zB13_4 (zk HT_.out) ?_
            refine zP (i := 5) (N := some 22) zB13_5 (zk HT_.out) ?_
            refine zP (i := 6) (N := some 23) zB13_6 (zk HT_.out) ?_
            refine zP (i := 7) (N := some 24) zB13_7 (zk HT_.out) ?_
            refine zP (i := 8) (N := some 25) zB13_8 (zk HT_.out) ?_
            refine zT3 (i := 4) (N := some 21) zB13_9 (take_ofW HT_.out HW_.out (by kernel_rfl)) hHeld ?_
            refine zT3 (i := 9) (N := some 26) zB13_10 (take_ofW HT_.out HW_.out (by kernel_rfl)) hHeld ?_
            refine zP (i := 10) (N := some 27) zB13_11 (zk HT_.out) ?_
            refine zT3 (i := 11) (N := some 28) zB13_12 (take_ofW HT_.out HW_.out (by kernel_rfl)) hHeld ?_
            refine zP (i := 12) (N := some 29) zB13_13 (zk HT_.out) ?_
            refine zP (i := 13) (N := some 30) zB13_14 (zk HT_.out) ?_
            refine last_ (i := 14) (N := none) zB13_15 rfl rfl (one_of HT_.out (by kernel_rfl)) (by decide) (fun K hK => ?_)
            refine skip_ (w1 := ?_) (by rfl) rfl ?_ ?_
            rotate_left
            ·go_simp
             rfl
            refine hK.out _ _ ?_
            clear hK K
            refine done_ (done_of HT_.out (by kernel_rfl)) ?_
            try go_wp2
            have n0_ : Aside0 (Kd.R (Kd.int .i64) 3 (w29.setCell ⟨go13, ((rd l0 x4_1) : Int).toNat, none⟩ (.int .i64 (wrap64 ((rd x3_1 (rd l0 x4_1)) + 1)))) w.heap.size (fun _ => True) (.slice (some ⟨go13, 0, none⟩) x3_1.length co30) y564) := ⟨zR HQ31.out⟩
            have n1_ : Aside0 (Below w.heap.size w (w29.setCell ⟨go13, ((rd l0 x4_1) : Int).toNat, none⟩ (.int .i64 (wrap64 ((rd x3_1 (rd l0 x4_1)) + 1))))) := ⟨zB1 HB.out GB13.out⟩
            (try clear HO_3)
            (try clear HB)
            generalize (w29.setCell ⟨go13, ((rd l0 x4_1) : Int).toNat, none⟩ (.int .i64 (wrap64 ((rd x3_1 (rd l0 x4_1)) + 1)))) = w32 at n0_ n1_ ⊢
            have HO_3 := n0_
            have HB := n1_
            clear n0_ n1_
            have n0_ := Aside0.mk (Kd.R_drew HO_3.out)
            have n1_ := Aside0.mk (below_drew1 HB.out)
            clear HO_3
            clear HB
            have HO_3 := n0_
            have HB := n1_
            clear n0_ n1_
            have p565 : 0 ≤ (x4_1 : Int) := zd
            have q565 : x4_1 < (l0.length : Int) := zd
            obtain ⟨ad565, e565, hx565_0⟩ := Kd.at_int HR0.out x4_1 p565 q565
            have hw565_0 := hx565_0
            obtain rfl : ad561 = ad565 := (by injection e565)
            replace hx565_0 := (HB.out.cell (World.block_lt_of_cell? w _ hx565_0)).trans hx565_0
            replace p565 := eq_true p565
            replace q565 := eq_true q565
            refine start_ (n := 23) (S := fun w' => w'.cell? (ad561.add (x4_1).toNat) = some (.int .i64 (rd l0 x4_1))) (ds := []) zB13_16 (by kernel_rfl) rfl rfl (((HB.out.cell (World.block_lt_of_cell? w _ hw565_0)).trans hw565_0)) (fun hHeld => ?_); refine with_tabW spec_IsLattice.tab6 spec_IsLattice.bits6 (fun HT_ HW_ => ?_)
            generalize w32.drew = w33 at HO_3 HB HQ31 hx565_0 hHeld ⊢
            refine zP (i := 0) (N := some 31) zB13_17 (zk HT_.out) ?_
            refine zP (i := 1) (N := some 32) zB13_18 (zk HT_.out) ?_
            refine zP (i := 2) (N := some 33) zB13_19 (zk HT_.out) ?_
            refine zT1 (i := 3) (N := some 34) zB13_20 (take_ofW HT_.out HW_.out (by kernel_rfl)) hHeld ?_
            refine zP (i := 4) (N := some 35) zB13_21 (zk HT_.out) ?_
            refine zP (i := 5) (N := some 36) zB13_22 (zk HT_.out) ?_
            refine zU (i := 6) (N := some 37) zB13_23 (zk HT_.out) ?_
            refine zU (i := 7) (N := some 38) zB13_24 (zk HT_.out) ?_
            refine zU (i := 8) (N := some 39) zB13_25 (zk HT_.out) ?_
            refine zU (i := 9) (N := some 40) zB13_26 (zk HT_.out) ?_
            refine zU (i := 10) (N := some 41) #[true, true, true, true, true, true, true, true, true, true, true, false, false, false, false, false, false, false, false, false, false, false, false] (any_of HT_.out (by kernel_rfl)) ?_
            refine zU (i := 11) (N := some 42) #[true, true, true, true, true, true, true, true, true, true, true, true, false, false, false, false, false, false, false, false, false, false, false] (any_of HT_.out (by kernel_rfl)) ?_
            refine zU (i := 12) (N := some 43) #[true, true, true, true, true, true, true, true, true, true, true, true, true, false, false, false, false, false, false, false, false, false, false] (any_of HT_.out (by kernel_rfl)) ?_
            refine zU (i := 13) (N := some 44) #[true, true, true, true, true, true, true, true, true, true, true, true, true, true, false, false, false, false, false, false, false, false, false] (any_of HT_.out (by kernel_rfl)) ?_
            refine zU (i := 14) (N := some 45) #[true, true, true, true, true, true, true, true, true, true, true, true, true, true, true, false, false, false, false, false, false, false, false] (any_of HT_.out (by kernel_rfl)) ?_
            refine zU (i := 15) (N := some 46) #[true, true, true, true, true, true, true, true, true, true, true, true, true, true, true, true, false, false, false, false, false, false, false] (any_of HT_.out (by kernel_rfl)) ?_
            refine zU (i := 16) (N := some 47) zB13_33 (zk HT_.out) ?_
            refine zU (i := 17) (N := some 48) zB13_34 (zk HT_.out) ?_
            refine zU (i := 18) (N := some 49) zB13_35 (zk HT_.out) ?_
            refine zU (i := 19) (N := some 50) zB13_36 (zk HT_.out) ?_
            refine zU (i := 20) (N := some 51) zB13_37 (zk HT_.out) ?_
            refine zU (i := 21) (N := some 52) zB13_38 (zk HT_.out) ?_
            refine zP (i := 22) (N := some 53) zB13_39 (zk HT_.out) ?_
            refine done_ (done_of HT_.out (by kernel_rfl)) ?_
            try go_wp2
            go_roundg kj4
            case measure => have := HK1.out; have := HJ4.out; omega
            case rel => exact ⟨(y564), (wrap64 (x4_1 - 1)), zs, H', ⟨by have := HK1.out; have := HJ4.out; omega⟩, ⟨zR HO_3.out⟩, ⟨zB HB.out⟩⟩
          ·rw [if_neg c12] at H
           exact absurd H (by simp)
         ·rw [if_neg c11] at H
          exact absurd H (by simp)
        ·rw [if_neg c10] at H
         exact absurd H (by simp)
       ·rw [if_neg c9] at H
        exact absurd H (by simp)
      ·replace c8 := Bool.eq_false_iff.mpr c8
       subst c8
       have H1 : ((spec_IsWord.f kj4 l0).bind fun t570 => (some t570)) = some r := by rw [if_neg (show ¬ (false = true) by decide)] at H; exact H
       clear H
       have H := H1
       clear H1
       replace H := Option.bind_eq_some_iff.mp H
       obtain ⟨t570, A340, H⟩ := H
       replace H : (some t570) = some r := H
       have A34 := Aside0.mk A340
       clear A340
       obtain rfl := Option.some.inj H
       go_wp2_with (first | ((with_reducible refine gate_callee (f := 22) rfl ?_); refine zG (some 55) Tryz.func22 #[.slice A0 l0.length c0] ?_; (with_reducible refine (spec_IsWord.calls kj4 _ _ l0 t570 _ ?side1 ?side2 A34.out).mono ?_); (case side1 => exact zQ (Kd.C_below HR0.out HB.out)); (case side2 => exact HC0.out); rintro e w' ⟨rfl, ⟨nd, rfl⟩⟩; refine ⟨_, rfl, ?_⟩))
       go_ret
       exact ⟨zr, zB HB.out⟩
 ·rw [if_neg c2] at H
  exact absurd H (by simp)

end Go.Proofs.YtpandocpclecgaaGreatDoor.F
