/- For each Go function named below: the plain Lean function that it computes, and that its call returns just that; conditions: those that each theorem names. -/
import Derived.Test.YtpandocpclecgaaGreatDoorF0
import Derived.Test.YtpandocpclecgaaGreatDoorF1
import Derived.Test.YtpandocpclecgaaGreatDoorF2
namespace Go.Proofs.YtpandocpclecgaaGreatDoor.F
open Go.RowKit Go.Proofs.YtpandocpclecgaaGreatDoorW.PrintWords Go.Proofs.YtpandocpclecgaaGreatDoorW.PrintLast Go.Proofs.YtpandocpclecgaaGreatDoorW.PrintMore
attribute [local go_sem] max2_int min2_int max_two min_two max_three min_three max_four min_four   -- for this text's walks alone
set_option linter.unusedVariables false
set_option linter.unusedSimpArgs false

def impl_DescentCount.l0 : Nat → List Int → Int → Int → Option (Int)
 | 0, _, _, _ => none
 | k + 1, x0, x3, x4 => if x4 < (x0.length : Int) then (if 0 ≤ (wrap64 (x4 - 1)) then (if (wrap64 (x4 - 1)) < (x0.length : Int) then (if 0 ≤ x4 then (if (rd x0 (wrap64 (x4 - 1))) > (rd x0 x4) then (impl_DescentCount.l0 k x0 (wrap64 (x3 + 1)) (wrap64 (x4 + 1))) else (impl_DescentCount.l0 k x0 x3 (wrap64 (x4 + 1)))) else (none)) else (none)) else (none)) else (some x3)
def impl_DescentCount.f (k : Nat) (l0 : List Int) : Option (Int) := (impl_IsWord.f l0).bind fun t571 => (if t571 = true then (impl_DescentCount.l0 k l0 0 1) else (some (-1)))
set_option maxHeartbeats 8000000 in
set_option maxRecDepth 100000 in
theorem impl_DescentCount.calls (k : Nat) (A0 : Option Addr) (c0 : Nat) (l0 : List Int) (r : Int) (w : World) (hr0 : Kd.C (Kd.int .i64) w A0 l0.length l0) (hc0 : l0.length ≤ c0) (h : impl_DescentCount.f k l0 = some r) :
  Calls Tryz.prog 23 #[.slice A0 l0.length c0] w fun e w' => e = .returned (.int .i64 r) ∧ Drawn0 w w' := by
 have HR0 := Aside0.mk hr0
 have HC0 := Aside0.mk hc0
 clear hr0 hc0
 have H : ((impl_IsWord.f l0).bind fun t571 => (if t571 = true then (impl_DescentCount.l0 k l0 0 1) else (some (-1)))) = some r := h
 clear h
 replace H := Option.bind_eq_some_iff.mp H
 obtain ⟨t571, A20, H⟩ := H
 replace H : (if t571 = true then (impl_DescentCount.l0 k l0 0 1) else (some (-1))) = some r := H
 have A2 := Aside0.mk A20
 clear A20
 by_cases c3 : t571 = true
 ·subst c3
  have H1 : (impl_DescentCount.l0 k l0 0 1) = some r := by rw [if_pos rfl] at H; exact H
  clear H
  have H := H1
  clear H1
  have H' := Aside0.mk H
  clear H
  go_enter Tryz.func23, Tryz.ntmps23
  go_wp2_with (first | (go_at_call 21; (with_reducible refine (impl_IsWord.calls _ _ l0 true _ ?side1 ?side2 A2.out).mono ?_); (case side1 => exact zQ HR0.out); (case side2 => exact HC0.out); rintro e w' ⟨rfl, ⟨nd, rfl⟩⟩; (try exact zW)))
  repeat (go_quiet (first | (go_at_call 21; (with_reducible refine (impl_IsWord.calls _ _ l0 true _ ?side1 ?side2 A2.out).mono ?_); (case side1 => exact zQ HR0.out); (case side2 => exact HC0.out); rintro e w' ⟨rfl, ⟨nd, rfl⟩⟩; (try exact zW))); try go_wp2_with (first | (go_at_call 21; (with_reducible refine (impl_IsWord.calls _ _ l0 true _ ?side1 ?side2 A2.out).mono ?_); (case side1 => exact zQ HR0.out); (case side2 => exact HC0.out); rintro e w' ⟨rfl, ⟨nd, rfl⟩⟩; (try exact zW))))
  go_loopg [3, 4] k (fun kq v3 v4 w' => ∃ (x3_1 : Int) (x4_1 : Int), v3 = .int .i64 x3_1 ∧ v4 = .int .i64 x4_1 ∧ Aside0 (impl_DescentCount.l0 kq l0 x3_1 x4_1 = some r) ∧ Aside0 (kq ≤ k) ∧ Drawn0 w w')
  case atStart => exact ⟨(0), (1), zs, zs, H', ⟨Nat.le_refl _⟩, zE⟩
  case round =>
   clear H'
   try clear c2
   try clear p2
   try clear c3
   obtain ⟨x3_1, x4_1, rfl, rfl, HA, HK1, ⟨m1, rfl⟩⟩ := hrel
   cases gk with
   | zero => exact absurd HA.out (by simp [impl_DescentCount.l0])
   | succ k1 =>
    have H := HA.out
    clear HA
    simp only [impl_DescentCount.l0] at H
    by_cases c4 : x4_1 < (l0.length : Int)
    ·rw [if_pos c4] at H
     have c4b0 : decide (x4_1 < (l0.length : Int)) = true := decide_eq_true c4
     clear c4
     obtain ⟨ji5, hji5⟩ : ∃ j_ : Int, (wrap64 (x4_1 - 1)) = j_ := ⟨_, rfl⟩
     replace H : (if 0 ≤ (ji5) then (if (ji5) < (l0.length : Int) then (if 0 ≤ x4_1 then (if (rd l0 (ji5)) > (rd l0 x4_1) then (impl_DescentCount.l0 k1 l0 (wrap64 (x3_1 + 1)) (wrap64 (x4_1 + 1))) else (impl_DescentCount.l0 k1 l0 x3_1 (wrap64 (x4_1 + 1)))) else (none)) else (none)) else (none)) = some r := by first | (rw [hji5] at H; exact H) | (simp only [hji5] at H ⊢; exact H)
     have hji5w : (IntKind.i64.wrap (x4_1 - 1)) = ji5 := (i64_w _).trans hji5
     by_cases c6 : 0 ≤ (ji5)
     ·rw [if_pos c6] at H
      have c6b0 : decide (0 ≤ (ji5)) = true := decide_eq_true c6
      clear c6
      by_cases c7 : (ji5) < (l0.length : Int)
      ·rw [if_pos c7] at H
       have c7b0 : decide ((ji5) < (l0.length : Int)) = true := decide_eq_true c7
       clear c7
       by_cases c8 : 0 ≤ x4_1
       ·rw [if_pos c8] at H
        have c8b0 : decide (0 ≤ x4_1) = true := decide_eq_true c8
        clear c8
        by_cases c9 : (rd l0 (ji5)) > (rd l0 x4_1)
        ·rw [if_pos c9] at H
         have c9b0 : decide ((rd l0 x4_1) < (rd l0 (ji5))) = true := decide_eq_true c9
         clear c9
         have H' := Aside0.mk H
         clear H
         have p572 : 0 ≤ ((ji5) : Int) := zd
         have q572 : (ji5) < (l0.length : Int) := zd
         obtain ⟨ad572, e572, hx572_0⟩ := Kd.at_int HR0.out (ji5) p572 q572
         cases e572
         replace p572 := eq_true p572
         replace q572 := eq_true q572
         have p573 : 0 ≤ (x4_1 : Int) := zd
         have q573 : x4_1 < (l0.length : Int) := zd
         obtain ⟨ad573, e573, hx573_0⟩ := Kd.at_int HR0.out x4_1 p573 q573
         obtain rfl : ad572 = ad573 := (by injection e573)
         replace p573 := eq_true p573
         replace q573 := eq_true q573
         go_wp2
         repeat (go_quiet (fail); try go_wp2)
         go_roundg k1
         case measure => have := HK1.out; omega
         case rel => exact ⟨(wrap64 (x3_1 + 1)), (wrap64 (x4_1 + 1)), zs, zs, H', ⟨by have := HK1.out; omega⟩, zE⟩
        ·rw [if_neg c9] at H
         have c9b0 : decide ((rd l0 x4_1) < (rd l0 (ji5))) = false := decide_eq_false c9
         clear c9
         have H' := Aside0.mk H
         clear H
         have p572 : 0 ≤ ((ji5) : Int) := zd
         have q572 : (ji5) < (l0.length : Int) := zd
         obtain ⟨ad572, e572, hx572_0⟩ := Kd.at_int HR0.out (ji5) p572 q572
         cases e572
         replace p572 := eq_true p572
         replace q572 := eq_true q572
         have p573 : 0 ≤ (x4_1 : Int) := zd
         have q573 : x4_1 < (l0.length : Int) := zd
         obtain ⟨ad573, e573, hx573_0⟩ := Kd.at_int HR0.out x4_1 p573 q573
         obtain rfl : ad572 = ad573 := (by injection e573)
         replace p573 := eq_true p573
         replace q573 := eq_true q573
         go_wp2
         repeat (go_quiet (fail); try go_wp2)
         go_roundg k1
         case measure => have := HK1.out; omega
         case rel => exact ⟨(x3_1), (wrap64 (x4_1 + 1)), zs, zs, H', ⟨by have := HK1.out; omega⟩, zE⟩
       ·rw [if_neg c8] at H
        exact absurd H (by simp)
      ·rw [if_neg c7] at H
       exact absurd H (by simp)
     ·rw [if_neg c6] at H
      exact absurd H (by simp)
    ·rw [if_neg c4] at H
     have c4b0 : decide (x4_1 < (l0.length : Int)) = false := decide_eq_false c4
     clear c4
     obtain rfl := Option.some.inj H
     go_wp2
     repeat (go_quiet (fail); try go_wp2)
     go_ret
     exact ⟨zs, zE⟩
 ·replace c3 := Bool.eq_false_iff.mpr c3
  subst c3
  have H1 : (some (-1)) = some r := by rw [if_neg (show ¬ (false = true) by decide)] at H; exact H
  clear H
  have H := H1
  clear H1
  obtain rfl := Option.some.inj H
  go_enter Tryz.func23, Tryz.ntmps23
  go_wp2_with (first | (go_at_call 21; (with_reducible refine (impl_IsWord.calls _ _ l0 false _ ?side1 ?side2 A2.out).mono ?_); (case side1 => exact zQ HR0.out); (case side2 => exact HC0.out); rintro e w' ⟨rfl, ⟨nd, rfl⟩⟩; (try exact zW)))
  repeat (go_quiet (first | (go_at_call 21; (with_reducible refine (impl_IsWord.calls _ _ l0 false _ ?side1 ?side2 A2.out).mono ?_); (case side1 => exact zQ HR0.out); (case side2 => exact HC0.out); rintro e w' ⟨rfl, ⟨nd, rfl⟩⟩; (try exact zW))); try go_wp2_with (first | (go_at_call 21; (with_reducible refine (impl_IsWord.calls _ _ l0 false _ ?side1 ?side2 A2.out).mono ?_); (case side1 => exact zQ HR0.out); (case side2 => exact HC0.out); rintro e w' ⟨rfl, ⟨nd, rfl⟩⟩; (try exact zW))))
  go_ret
  exact ⟨zs, zE⟩

def spec_DescentCount.l0 : Nat → List Int → Int → Int → Option (Int)
 | 0, _, _, _ => none
 | k + 1, x0, x3, x4 => if x4 < (x0.length : Int) then (if 0 ≤ (wrap64 (x4 - 1)) then (if (wrap64 (x4 - 1)) < (x0.length : Int) then (if 0 ≤ x4 then ((spec_l1Bit.f (decide ((rd x0 (wrap64 (x4 - 1))) > (rd x0 x4)))).bind fun t577 => (spec_DescentCount.l0 k x0 (wrap64 (x3 + t577)) (wrap64 (x4 + 1)))) else (none)) else (none)) else (none)) else (some x3)
def spec_DescentCount.f (k : Nat) (l0 : List Int) : Option (Int) := (spec_IsWord.f k l0).bind fun t574 => (if t574 = true then (spec_DescentCount.l0 k l0 0 1) else (some (-1)))
set_option maxHeartbeats 8000000 in
set_option maxRecDepth 100000 in
theorem spec_DescentCount.calls (k : Nat) (A0 : Option Addr) (c0 : Nat) (l0 : List Int) (r : Int) (w : World) (hr0 : Kd.C (Kd.int .i64) w A0 l0.length l0) (hc0 : l0.length ≤ c0) (h : spec_DescentCount.f k l0 = some r) :
  Calls Tryz.prog 24 #[.slice A0 l0.length c0] w fun e w' => e = .returned (.int .i64 r) ∧ Drawn0 w w' := by
 have HR0 := Aside0.mk hr0
 have HC0 := Aside0.mk hc0
 clear hr0 hc0
 have H : ((spec_IsWord.f k l0).bind fun t574 => (if t574 = true then (spec_DescentCount.l0 k l0 0 1) else (some (-1)))) = some r := h
 clear h
 replace H := Option.bind_eq_some_iff.mp H
 obtain ⟨t574, A20, H⟩ := H
 replace H : (if t574 = true then (spec_DescentCount.l0 k l0 0 1) else (some (-1))) = some r := H
 have A2 := Aside0.mk A20
 clear A20
 by_cases c3 : t574 = true
 ·subst c3
  have H1 : (spec_DescentCount.l0 k l0 0 1) = some r := by rw [if_pos rfl] at H; exact H
  clear H
  have H := H1
  clear H1
  have H' := Aside0.mk H
  clear H
  go_enter Tryz.func24, Tryz.ntmps24
  go_wp2_with (first | (go_at_call 22; (with_reducible refine (spec_IsWord.calls k _ _ l0 true _ ?side1 ?side2 A2.out).mono ?_); (case side1 => exact zQ HR0.out); (case side2 => exact HC0.out); rintro e w' ⟨rfl, ⟨nd, rfl⟩⟩; (try exact zW)))
  repeat (go_quiet (first | (go_at_call 22; (with_reducible refine (spec_IsWord.calls k _ _ l0 true _ ?side1 ?side2 A2.out).mono ?_); (case side1 => exact zQ HR0.out); (case side2 => exact HC0.out); rintro e w' ⟨rfl, ⟨nd, rfl⟩⟩; (try exact zW))); try go_wp2_with (first | (go_at_call 22; (with_reducible refine (spec_IsWord.calls k _ _ l0 true _ ?side1 ?side2 A2.out).mono ?_); (case side1 => exact zQ HR0.out); (case side2 => exact HC0.out); rintro e w' ⟨rfl, ⟨nd, rfl⟩⟩; (try exact zW))))
  go_loopg [3, 4] k (fun kq v3 v4 w' => ∃ (x3_1 : Int) (x4_1 : Int), v3 = .int .i64 x3_1 ∧ v4 = .int .i64 x4_1 ∧ Aside0 (spec_DescentCount.l0 kq l0 x3_1 x4_1 = some r) ∧ Aside0 (kq ≤ k) ∧ Drawn0 w w')
  case atStart => exact ⟨(0), (1), zs, zs, H', ⟨Nat.le_refl _⟩, zE⟩
  case round =>
   clear H'
   try clear c2
   try clear p2
   try clear c3
   obtain ⟨x3_1, x4_1, rfl, rfl, HA, HK1, ⟨m1, rfl⟩⟩ := hrel
   cases gk with
   | zero => exact absurd HA.out (by simp [spec_DescentCount.l0])
   | succ k1 =>
    have H := HA.out
    clear HA
    simp only [spec_DescentCount.l0] at H
    by_cases c4 : x4_1 < (l0.length : Int)
    ·rw [if_pos c4] at H
     have c4b0 : decide (x4_1 < (l0.length : Int)) = true := decide_eq_true c4
     clear c4
     obtain ⟨ji5, hji5⟩ : ∃ j_ : Int, (wrap64 (x4_1 - 1)) = j_ := ⟨_, rfl⟩
     replace H : (if 0 ≤ (ji5) then (if (ji5) < (l0.length : Int) then (if 0 ≤ x4_1 then ((spec_l1Bit.f (decide ((rd l0 (ji5)) > (rd l0 x4_1)))).bind fun t577 => (spec_DescentCount.l0 k1 l0 (wrap64 (x3_1 + t577)) (wrap64 (x4_1 + 1)))) else (none)) else (none)) else (none)) = some r := by first | (rw [hji5] at H; exact H) | (simp only [hji5] at H ⊢; exact H)
     have hji5w : (IntKind.i64.wrap (x4_1 - 1)) = ji5 := (i64_w _).trans hji5
     by_cases c6 : 0 ≤ (ji5)
     ·rw [if_pos c6] at H
      have c6b0 : decide (0 ≤ (ji5)) = true := decide_eq_true c6
      clear c6
      by_cases c7 : (ji5) < (l0.length : Int)
      ·rw [if_pos c7] at H
       have c7b0 : decide ((ji5) < (l0.length : Int)) = true := decide_eq_true c7
       clear c7
       by_cases c8 : 0 ≤ x4_1
       ·rw [if_pos c8] at H
        have c8b0 : decide (0 ≤ x4_1) = true := decide_eq_true c8
        clear c8
        replace H := Option.bind_eq_some_iff.mp H
        obtain ⟨t577, A90, H⟩ := H
        replace H : (spec_DescentCount.l0 k1 l0 (wrap64 (x3_1 + t577)) (wrap64 (x4_1 + 1))) = some r := H
        have A9 := Aside0.mk A90
        clear A90
        have H' := Aside0.mk H
        clear H
        have p575 : 0 ≤ ((ji5) : Int) := zd
        have q575 : (ji5) < (l0.length : Int) := zd
        obtain ⟨ad575, e575, hx575_0⟩ := Kd.at_int HR0.out (ji5) p575 q575
        cases e575
        replace p575 := eq_true p575
        replace q575 := eq_true q575
        have p576 : 0 ≤ (x4_1 : Int) := zd
        have q576 : x4_1 < (l0.length : Int) := zd
        obtain ⟨ad576, e576, hx576_0⟩ := Kd.at_int HR0.out x4_1 p576 q576
        obtain rfl : ad575 = ad576 := (by injection e576)
        replace p576 := eq_true p576
        replace q576 := eq_true q576
        go_wp2_with (first | (go_at_call 43; (with_reducible refine (spec_l1Bit.calls (decide ((rd l0 (ji5)) > (rd l0 x4_1))) t577 _ A9.out).mono ?_); rintro e w' ⟨rfl, ⟨nd, rfl⟩⟩; (try exact zW)))
        repeat (go_quiet (first | (go_at_call 43; (with_reducible refine (spec_l1Bit.calls (decide ((rd l0 (ji5)) > (rd l0 x4_1))) t577 _ A9.out).mono ?_); rintro e w' ⟨rfl, ⟨nd, rfl⟩⟩; (try exact zW))); try go_wp2_with (first | (go_at_call 43; (with_reducible refine (spec_l1Bit.calls (decide ((rd l0 (ji5)) > (rd l0 x4_1))) t577 _ A9.out).mono ?_); rintro e w' ⟨rfl, ⟨nd, rfl⟩⟩; (try exact zW))))
        go_roundg k1
        case measure => have := HK1.out; omega
        case rel => exact ⟨(wrap64 (x3_1 + t577)), (wrap64 (x4_1 + 1)), zs, zs, H', ⟨by have := HK1.out; omega⟩, zE⟩
       ·rw [if_neg c8] at H
        exact absurd H (by simp)
      ·rw [if_neg c7] at H
       exact absurd H (by simp)
     ·rw [if_neg c6] at H
      exact absurd H (by simp)
    ·rw [if_neg c4] at H
     have c4b0 : decide (x4_1 < (l0.length : Int)) = false := decide_eq_false c4
     clear c4
     obtain rfl := Option.some.inj H
     go_wp2
     repeat (go_quiet (fail); try go_wp2)
     go_ret
     exact ⟨zs, zE⟩
 ·replace c3 := Bool.eq_false_iff.mpr c3
  subst c3
  have H1 : (some (-1)) = some r := by rw [if_neg (show ¬ (false = true) by decide)] at H; exact H
  clear H
  have H := H1
  clear H1
  obtain rfl := Option.some.inj H
  go_enter Tryz.func24, Tryz.ntmps24
  go_wp2_with (first | (go_at_call 22; (with_reducible refine (spec_IsWord.calls k _ _ l0 false _ ?side1 ?side2 A2.out).mono ?_); (case side1 => exact zQ HR0.out); (case side2 => exact HC0.out); rintro e w' ⟨rfl, ⟨nd, rfl⟩⟩; (try exact zW)))
  repeat (go_quiet (first | (go_at_call 22; (with_reducible refine (spec_IsWord.calls k _ _ l0 false _ ?side1 ?side2 A2.out).mono ?_); (case side1 => exact zQ HR0.out); (case side2 => exact HC0.out); rintro e w' ⟨rfl, ⟨nd, rfl⟩⟩; (try exact zW))); try go_wp2_with (first | (go_at_call 22; (with_reducible refine (spec_IsWord.calls k _ _ l0 false _ ?side1 ?side2 A2.out).mono ?_); (case side1 => exact zQ HR0.out); (case side2 => exact HC0.out); rintro e w' ⟨rfl, ⟨nd, rfl⟩⟩; (try exact zW))))
  go_ret
  exact ⟨zs, zE⟩

mutual
def impl_InversionCount.l0 : Nat → List Int → Int → Int → Int → Option (Int)
 | 0, _, _, _, _ => none
 | k + 1, x0, x3, x10, x11 => if x11 < x10 then (impl_InversionCount.l1 k x0 x3 x11 x10 x11 x11 0) else (some x3)
def impl_InversionCount.l1 : Nat → List Int → Int → Int → Int → Int → Int → Int → Option (Int)
 | 0, _, _, _, _, _, _, _ => none
 | k + 1, x0, x3, x4, x10, x11, x14, x15 => if x15 < x14 then (if 0 ≤ x15 then (if x15 < (x0.length : Int) then (if 0 ≤ x4 then (if x4 < (x0.length : Int) then (if (rd x0 x15) > (rd x0 x4) then (impl_InversionCount.l1 k x0 (wrap64 (x3 + 1)) x4 x10 x11 x14 (wrap64 (x15 + 1))) else (impl_InversionCount.l1 k x0 x3 x4 x10 x11 x14 (wrap64 (x15 + 1)))) else (none)) else (none)) else (none)) else (none)) else (impl_InversionCount.l0 k x0 x3 x10 (wrap64 (x11 + 1)))
end
def impl_InversionCount.f (k : Nat) (l0 : List Int) : Option (Int) := (impl_IsWord.f l0).bind fun t578 => (if t578 = true then (impl_InversionCount.l0 k l0 0 (l0.length : Int) 0) else (some (-1)))
set_option maxHeartbeats 8000000 in
set_option maxRecDepth 100000 in
theorem impl_InversionCount.calls (k : Nat) (A0 : Option Addr) (c0 : Nat) (l0 : List Int) (r : Int) (w : World) (hr0 : Kd.C (Kd.int .i64) w A0 l0.length l0) (hc0 : l0.length ≤ c0) (h : impl_InversionCount.f k l0 = some r) :
  Calls Tryz.prog 25 #[.slice A0 l0.length c0] w fun e w' => e = .returned (.int .i64 r) ∧ Drawn0 w w' := by
 have HR0 := Aside0.mk hr0
 have HC0 := Aside0.mk hc0
 clear hr0 hc0
 have H : ((impl_IsWord.f l0).bind fun t578 => (if t578 = true then (impl_InversionCount.l0 k l0 0 (l0.length : Int) 0) else (some (-1)))) = some r := h
 clear h
 replace H := Option.bind_eq_some_iff.mp H
 obtain ⟨t578, A20, H⟩ := H
 replace H : (if t578 = true then (impl_InversionCount.l0 k l0 0 (l0.length : Int) 0) else (some (-1))) = some r := H
 have A2 := Aside0.mk A20
 clear A20
 by_cases c3 : t578 = true
 ·subst c3
  have H1 : (impl_InversionCount.l0 k l0 0 (l0.length : Int) 0) = some r := by rw [if_pos rfl] at H; exact H
  clear H
  have H := H1
  clear H1
  have H' := Aside0.mk H
  clear H
  go_enter Tryz.func25, Tryz.ntmps25
  go_wp2_with (first | (go_at_call 21; (with_reducible refine (impl_IsWord.calls _ _ l0 true _ ?side1 ?side2 A2.out).mono ?_); (case side1 => exact zQ HR0.out); (case side2 => exact HC0.out); rintro e w' ⟨rfl, ⟨nd, rfl⟩⟩; (try exact zW)))
  repeat (go_quiet (first | (go_at_call 21; (with_reducible refine (impl_IsWord.calls _ _ l0 true _ ?side1 ?side2 A2.out).mono ?_); (case side1 => exact zQ HR0.out); (case side2 => exact HC0.out); rintro e w' ⟨rfl, ⟨nd, rfl⟩⟩; (try exact zW))); try go_wp2_with (first | (go_at_call 21; (with_reducible refine (impl_IsWord.calls _ _ l0 true _ ?side1 ?side2 A2.out).mono ?_); (case side1 => exact zQ HR0.out); (case side2 => exact HC0.out); rintro e w' ⟨rfl, ⟨nd, rfl⟩⟩; (try exact zW))))
  go_loopg [3, 11] k (fun kq v3 v11 w' => ∃ (x3_1 : Int) (x11_1 : Int), v3 = .int .i64 x3_1 ∧ v11 = .int .i64 x11_1 ∧ Aside0 (impl_InversionCount.l0 kq l0 x3_1 (l0.length : Int) x11_1 = some r) ∧ Aside0 (kq ≤ k) ∧ Drawn0 w w')
  case atStart => exact ⟨(0), (0), zs, zs, H', ⟨Nat.le_refl _⟩, zE⟩
  case round =>
   clear H'
   try clear c2
   try clear p2
   try clear c3
   obtain ⟨x3_1, x11_1, rfl, rfl, HA, HK1, ⟨m1, rfl⟩⟩ := hrel
   cases gk with
   | zero => exact absurd HA.out (by simp [impl_InversionCount.l0])
   | succ k1 =>
    have H := HA.out
    clear HA
    simp only [impl_InversionCount.l0] at H
    by_cases c4 : x11_1 < (l0.length : Int)
    ·rw [if_pos c4] at H
     have c4b0 : decide (x11_1 < (l0.length : Int)) = true := decide_eq_true c4
     clear c4
     have H' := Aside0.mk H
     clear H
     go_wp2
     repeat (go_quiet (fail); try go_wp2)
     go_loopg [3, 15] k1 (fun kq v3 v15 w' => ∃ (x3_2 : Int) (x15_2 : Int), v3 = .int .i64 x3_2 ∧ v15 = .int .i64 x15_2 ∧ Aside0 (impl_InversionCount.l1 kq l0 x3_2 x11_1 (l0.length : Int) x11_1 x11_1 x15_2 = some r) ∧ Aside0 (kq ≤ k1) ∧ Drawn0 w w')
     case atStart => exact ⟨(x3_1), (0), zs, zs, H', ⟨Nat.le_refl _⟩, zE⟩
     case round =>
      clear H'
      try clear c2
      try clear p2
      try clear c3
      try clear c4
      try clear c4b0
      try clear p2
      obtain ⟨x3_2, x15_2, rfl, rfl, HA, HK2, ⟨m2, rfl⟩⟩ := hrel
      cases gk with
      | zero => exact absurd HA.out (by simp [impl_InversionCount.l1])
      | succ k2 =>
       have H := HA.out
       clear HA
       simp only [impl_InversionCount.l1] at H
       by_cases c5 : x15_2 < x11_1
       ·rw [if_pos c5] at H
        have c5b0 : decide (x15_2 < x11_1) = true := decide_eq_true c5
        clear c5
        by_cases c6 : 0 ≤ x15_2
        ·rw [if_pos c6] at H
         have c6b0 : decide (0 ≤ x15_2) = true := decide_eq_true c6
         clear c6
         by_cases c7 : x15_2 < (l0.length : Int)
         ·rw [if_pos c7] at H
          have c7b0 : decide (x15_2 < (l0.length : Int)) = true := decide_eq_true c7
          clear c7
          by_cases c8 : 0 ≤ x11_1
          ·rw [if_pos c8] at H
           have c8b0 : decide (0 ≤ x11_1) = true := decide_eq_true c8
           clear c8
           by_cases c9 : x11_1 < (l0.length : Int)
           ·rw [if_pos c9] at H
            have c9b0 : decide (x11_1 < (l0.length : Int)) = true := decide_eq_true c9
            clear c9
            by_cases c10 : (rd l0 x15_2) > (rd l0 x11_1)
            ·rw [if_pos c10] at H
             have c10b0 : decide ((rd l0 x11_1) < (rd l0 x15_2)) = true := decide_eq_true c10
             clear c10
             have H' := Aside0.mk H
             clear H
             have p579 : 0 ≤ (x15_2 : Int) := zd
             have q579 : x15_2 < (l0.length : Int) := zd
             obtain ⟨ad579, e579, hx579_0⟩ := Kd.at_int HR0.out x15_2 p579 q579
             cases e579
             replace p579 := eq_true p579
             replace q579 := eq_true q579
             have p580 : 0 ≤ (x11_1 : Int) := zd
             have q580 : x11_1 < (l0.length : Int) := zd
             obtain ⟨ad580, e580, hx580_0⟩ := Kd.at_int HR0.out x11_1 p580 q580
             obtain rfl : ad579 = ad580 := (by injection e580)
             replace p580 := eq_true p580
             replace q580 := eq_true q580
             go_wp2
             repeat (go_quiet (fail); try go_wp2)
             go_roundg k2
             case measure => have := HK1.out; have := HK2.out; omega
             case rel => exact ⟨(wrap64 (x3_2 + 1)), (wrap64 (x15_2 + 1)), zs, zs, H', ⟨by have := HK1.out; have := HK2.out; omega⟩, zE⟩
            ·rw [if_neg c10] at H
             have c10b0 : decide ((rd l0 x11_1) < (rd l0 x15_2)) = false := decide_eq_false c10
             clear c10
             have H' := Aside0.mk H
             clear H
             have p579 : 0 ≤ (x15_2 : Int) := zd
             have q579 : x15_2 < (l0.length : Int) := zd
             obtain ⟨ad579, e579, hx579_0⟩ := Kd.at_int HR0.out x15_2 p579 q579
             cases e579
             replace p579 := eq_true p579
             replace q579 := eq_true q579
             have p580 : 0 ≤ (x11_1 : Int) := zd
             have q580 : x11_1 < (l0.length : Int) := zd
             obtain ⟨ad580, e580, hx580_0⟩ := Kd.at_int HR0.out x11_1 p580 q580
             obtain rfl : ad579 = ad580 := (by injection e580)
             replace p580 := eq_true p580
             replace q580 := eq_true q580
             go_wp2
             repeat (go_quiet (fail); try go_wp2)
             go_roundg k2
             case measure => have := HK1.out; have := HK2.out; omega
             case rel => exact ⟨(x3_2), (wrap64 (x15_2 + 1)), zs, zs, H', ⟨by have := HK1.out; have := HK2.out; omega⟩, zE⟩
           ·rw [if_neg c9] at H
            exact absurd H (by simp)
          ·rw [if_neg c8] at H
           exact absurd H (by simp)
         ·rw [if_neg c7] at H
          exact absurd H (by simp)
        ·rw [if_neg c6] at H
         exact absurd H (by simp)
       ·rw [if_neg c5] at H
        have c5b0 : decide (x15_2 < x11_1) = false := decide_eq_false c5
        clear c5
        have H' := Aside0.mk H
        clear H
        go_wp2
        repeat (go_quiet (fail); try go_wp2)
        go_roundg k2
        case measure => have := HK1.out; have := HK2.out; omega
        case rel => exact ⟨(x3_2), (wrap64 (x11_1 + 1)), zs, zs, H', ⟨by have := HK1.out; have := HK2.out; omega⟩, zE⟩
    ·rw [if_neg c4] at H
     have c4b0 : decide (x11_1 < (l0.length : Int)) = false := decide_eq_false c4
     clear c4
     obtain rfl := Option.some.inj H
     go_wp2
     repeat (go_quiet (fail); try go_wp2)
     go_ret
     exact ⟨zs, zE⟩
 ·replace c3 := Bool.eq_false_iff.mpr c3
  subst c3
  have H1 : (some (-1)) = some r := by rw [if_neg (show ¬ (false = true) by decide)] at H; exact H
  clear H
  have H := H1
  clear H1
  obtain rfl := Option.some.inj H
  go_enter Tryz.func25, Tryz.ntmps25
  go_wp2_with (first | (go_at_call 21; (with_reducible refine (impl_IsWord.calls _ _ l0 false _ ?side1 ?side2 A2.out).mono ?_); (case side1 => exact zQ HR0.out); (case side2 => exact HC0.out); rintro e w' ⟨rfl, ⟨nd, rfl⟩⟩; (try exact zW)))
  repeat (go_quiet (first | (go_at_call 21; (with_reducible refine (impl_IsWord.calls _ _ l0 false _ ?side1 ?side2 A2.out).mono ?_); (case side1 => exact zQ HR0.out); (case side2 => exact HC0.out); rintro e w' ⟨rfl, ⟨nd, rfl⟩⟩; (try exact zW))); try go_wp2_with (first | (go_at_call 21; (with_reducible refine (impl_IsWord.calls _ _ l0 false _ ?side1 ?side2 A2.out).mono ?_); (case side1 => exact zQ HR0.out); (case side2 => exact HC0.out); rintro e w' ⟨rfl, ⟨nd, rfl⟩⟩; (try exact zW))))
  go_ret
  exact ⟨zs, zE⟩

mutual
def spec_InversionCount.l0 : Nat → List Int → Int → Int → Option (Int)
 | 0, _, _, _ => none
 | k + 1, x0, x3, x4 => if x4 < (x0.length : Int) then (spec_InversionCount.l1 k x0 x3 x4 0) else (some x3)
def spec_InversionCount.l1 : Nat → List Int → Int → Int → Int → Option (Int)
 | 0, _, _, _, _ => none
 | k + 1, x0, x3, x4, x5 => if x5 < x4 then (if 0 ≤ x5 then (if x5 < (x0.length : Int) then (if 0 ≤ x4 then (if x4 < (x0.length : Int) then ((spec_l1Bit.f (decide ((rd x0 x5) > (rd x0 x4)))).bind fun t584 => (spec_InversionCount.l1 k x0 (wrap64 (x3 + t584)) x4 (wrap64 (x5 + 1)))) else (none)) else (none)) else (none)) else (none)) else (spec_InversionCount.l0 k x0 x3 (wrap64 (x4 + 1)))
end
def spec_InversionCount.f (k : Nat) (l0 : List Int) : Option (Int) := (spec_IsWord.f k l0).bind fun t581 => (if t581 = true then (spec_InversionCount.l0 k l0 0 1) else (some (-1)))
set_option maxHeartbeats 8000000 in
set_option maxRecDepth 100000 in
theorem spec_InversionCount.calls (k : Nat) (A0 : Option Addr) (c0 : Nat) (l0 : List Int) (r : Int) (w : World) (hr0 : Kd.C (Kd.int .i64) w A0 l0.length l0) (hc0 : l0.length ≤ c0) (h : spec_InversionCount.f k l0 = some r) :
  Calls Tryz.prog 26 #[.slice A0 l0.length c0] w fun e w' => e = .returned (.int .i64 r) ∧ Drawn0 w w' := by
 have HR0 := Aside0.mk hr0
 have HC0 := Aside0.mk hc0
 clear hr0 hc0
 have H : ((spec_IsWord.f k l0).bind fun t581 => (if t581 = true then (spec_InversionCount.l0 k l0 0 1) else (some (-1)))) = some r := h
 clear h
 replace H := Option.bind_eq_some_iff.mp H
 obtain ⟨t581, A20, H⟩ := H
 replace H : (if t581 = true then (spec_InversionCount.l0 k l0 0 1) else (some (-1))) = some r := H
 have A2 := Aside0.mk A20
 clear A20
 by_cases c3 : t581 = true
 ·subst c3
  have H1 : (spec_InversionCount.l0 k l0 0 1) = some r := by rw [if_pos rfl] at H; exact H
  clear H
  have H := H1
  clear H1
  have H' := Aside0.mk H
  clear H
  go_enter Tryz.func26, Tryz.ntmps26
  go_wp2_with (first | (go_at_call 22; (with_reducible refine (spec_IsWord.calls k _ _ l0 true _ ?side1 ?side2 A2.out).mono ?_); (case side1 => exact zQ HR0.out); (case side2 => exact HC0.out); rintro e w' ⟨rfl, ⟨nd, rfl⟩⟩; (try exact zW)))
  repeat (go_quiet (first | (go_at_call 22; (with_reducible refine (spec_IsWord.calls k _ _ l0 true _ ?side1 ?side2 A2.out).mono ?_); (case side1 => exact zQ HR0.out); (case side2 => exact HC0.out); rintro e w' ⟨rfl, ⟨nd, rfl⟩⟩; (try exact zW))); try go_wp2_with (first | (go_at_call 22; (with_reducible refine (spec_IsWord.calls k _ _ l0 true _ ?side1 ?side2 A2.out).mono ?_); (case side1 => exact zQ HR0.out); (case side2 => exact HC0.out); rintro e w' ⟨rfl, ⟨nd, rfl⟩⟩; (try exact zW))))
  go_loopg [3, 4] k (fun kq v3 v4 w' => ∃ (x3_1 : Int) (x4_1 : Int), v3 = .int .i64 x3_1 ∧ v4 = .int .i64 x4_1 ∧ Aside0 (spec_InversionCount.l0 kq l0 x3_1 x4_1 = some r) ∧ Aside0 (kq ≤ k) ∧ Drawn0 w w')
  case atStart => exact ⟨(0), (1), zs, zs, H', ⟨Nat.le_refl _⟩, zE⟩
  case round =>
   clear H'
   try clear c2
   try clear p2
   try clear c3
   obtain ⟨x3_1, x4_1, rfl, rfl, HA, HK1, ⟨m1, rfl⟩⟩ := hrel
   cases gk with
   | zero => exact absurd HA.out (by simp [spec_InversionCount.l0])
   | succ k1 =>
    have H := HA.out
    clear HA
    simp only [spec_InversionCount.l0] at H
    by_cases c4 : x4_1 < (l0.length : Int)
    ·rw [if_pos c4] at H
     have c4b0 : decide (x4_1 < (l0.length : Int)) = true := decide_eq_true c4
     clear c4
     have H' := Aside0.mk H
     clear H
     go_wp2
     repeat (go_quiet (fail); try go_wp2)
     go_loopg [3, 5] k1 (fun kq v3 v5 w' => ∃ (x3_2 : Int) (x5_2 : Int), v3 = .int .i64 x3_2 ∧ v5 = .int .i64 x5_2 ∧ Aside0 (spec_InversionCount.l1 kq l0 x3_2 x4_1 x5_2 = some r) ∧ Aside0 (kq ≤ k1) ∧ Drawn0 w w')
     case atStart => exact ⟨(x3_1), (0), zs, zs, H', ⟨Nat.le_refl _⟩, zE⟩
     case round =>
      clear H'
      try clear c2
      try clear p2
      try clear c3
      try clear c4
      try clear c4b0
      try clear p2
      obtain ⟨x3_2, x5_2, rfl, rfl, HA, HK2, ⟨m2, rfl⟩⟩ := hrel
      cases gk with
      | zero => exact absurd HA.out (by simp [spec_InversionCount.l1])
      | succ k2 =>
       have H := HA.out
       clear HA
       simp only [spec_InversionCount.l1] at H
       by_cases c5 : x5_2 < x4_1
       ·rw [if_pos c5] at H
        have c5b0 : decide (x5_2 < x4_1) = true := decide_eq_true c5
        clear c5
        by_cases c6 : 0 ≤ x5_2
        ·rw [if_pos c6] at H
         have c6b0 : decide (0 ≤ x5_2) = true := decide_eq_true c6
         clear c6
         by_cases c7 : x5_2 < (l0.length : Int)
         ·rw [if_pos c7] at H
          have c7b0 : decide (x5_2 < (l0.length : Int)) = true := decide_eq_true c7
          clear c7
          by_cases c8 : 0 ≤ x4_1
          ·rw [if_pos c8] at H
           have c8b0 : decide (0 ≤ x4_1) = true := decide_eq_true c8
           clear c8
           by_cases c9 : x4_1 < (l0.length : Int)
           ·rw [if_pos c9] at H
            have c9b0 : decide (x4_1 < (l0.length : Int)) = true := decide_eq_true c9
            clear c9
            replace H := Option.bind_eq_some_iff.mp H
            obtain ⟨t584, A100, H⟩ := H
            replace H : (spec_InversionCount.l1 k2 l0 (wrap64 (x3_2 + t584)) x4_1 (wrap64 (x5_2 + 1))) = some r := H
            have A10 := Aside0.mk A100
            clear A100
            have H' := Aside0.mk H
            clear H
            have p582 : 0 ≤ (x5_2 : Int) := zd
            have q582 : x5_2 < (l0.length : Int) := zd
            obtain ⟨ad582, e582, hx582_0⟩ := Kd.at_int HR0.out x5_2 p582 q582
            cases e582
            replace p582 := eq_true p582
            replace q582 := eq_true q582
            have p583 : 0 ≤ (x4_1 : Int) := zd
            have q583 : x4_1 < (l0.length : Int) := zd
            obtain ⟨ad583, e583, hx583_0⟩ := Kd.at_int HR0.out x4_1 p583 q583
            obtain rfl : ad582 = ad583 := (by injection e583)
            replace p583 := eq_true p583
            replace q583 := eq_true q583
            go_wp2_with (first | (go_at_call 43; (with_reducible refine (spec_l1Bit.calls (decide ((rd l0 x5_2) > (rd l0 x4_1))) t584 _ A10.out).mono ?_); rintro e w' ⟨rfl, ⟨nd, rfl⟩⟩; (try exact zW)))
            repeat (go_quiet (first | (go_at_call 43; (with_reducible refine (spec_l1Bit.calls (decide ((rd l0 x5_2) > (rd l0 x4_1))) t584 _ A10.out).mono ?_); rintro e w' ⟨rfl, ⟨nd, rfl⟩⟩; (try exact zW))); try go_wp2_with (first | (go_at_call 43; (with_reducible refine (spec_l1Bit.calls (decide ((rd l0 x5_2) > (rd l0 x4_1))) t584 _ A10.out).mono ?_); rintro e w' ⟨rfl, ⟨nd, rfl⟩⟩; (try exact zW))))
            go_roundg k2
            case measure => have := HK1.out; have := HK2.out; omega
            case rel => exact ⟨(wrap64 (x3_2 + t584)), (wrap64 (x5_2 + 1)), zs, zs, H', ⟨by have := HK1.out; have := HK2.out; omega⟩, zE⟩
           ·rw [if_neg c9] at H
            exact absurd H (by simp)
          ·rw [if_neg c8] at H
           exact absurd H (by simp)
         ·rw [if_neg c7] at H
          exact absurd H (by simp)
        ·rw [if_neg c6] at H
         exact absurd H (by simp)
       ·rw [if_neg c5] at H
        have c5b0 : decide (x5_2 < x4_1) = false := decide_eq_false c5
        clear c5
        have H' := Aside0.mk H
        clear H
        go_wp2
        repeat (go_quiet (fail); try go_wp2)
        go_roundg k2
        case measure => have := HK1.out; have := HK2.out; omega
        case rel => exact ⟨(x3_2), (wrap64 (x4_1 + 1)), zs, zs, H', ⟨by have := HK1.out; have := HK2.out; omega⟩, zE⟩
    ·rw [if_neg c4] at H
     have c4b0 : decide (x4_1 < (l0.length : Int)) = false := decide_eq_false c4
     clear c4
     obtain rfl := Option.some.inj H
     go_wp2
     repeat (go_quiet (fail); try go_wp2)
     go_ret
     exact ⟨zs, zE⟩
 ·replace c3 := Bool.eq_false_iff.mpr c3
  subst c3
  have H1 : (some (-1)) = some r := by rw [if_neg (show ¬ (false = true) by decide)] at H; exact H
  clear H
  have H := H1
  clear H1
  obtain rfl := Option.some.inj H
  go_enter Tryz.func26, Tryz.ntmps26
  go_wp2_with (first | (go_at_call 22; (with_reducible refine (spec_IsWord.calls k _ _ l0 false _ ?side1 ?side2 A2.out).mono ?_); (case side1 => exact zQ HR0.out); (case side2 => exact HC0.out); rintro e w' ⟨rfl, ⟨nd, rfl⟩⟩; (try exact zW)))
  repeat (go_quiet (first | (go_at_call 22; (with_reducible refine (spec_IsWord.calls k _ _ l0 false _ ?side1 ?side2 A2.out).mono ?_); (case side1 => exact zQ HR0.out); (case side2 => exact HC0.out); rintro e w' ⟨rfl, ⟨nd, rfl⟩⟩; (try exact zW))); try go_wp2_with (first | (go_at_call 22; (with_reducible refine (spec_IsWord.calls k _ _ l0 false _ ?side1 ?side2 A2.out).mono ?_); (case side1 => exact zQ HR0.out); (case side2 => exact HC0.out); rintro e w' ⟨rfl, ⟨nd, rfl⟩⟩; (try exact zW))))
  go_ret
  exact ⟨zs, zE⟩

end Go.Proofs.YtpandocpclecgaaGreatDoor.F
