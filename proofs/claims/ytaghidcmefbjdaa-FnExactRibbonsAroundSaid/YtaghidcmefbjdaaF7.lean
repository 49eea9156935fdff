/- For each Go function named below: the plain Lean function that it computes, and that its call returns just that; conditions: those that each theorem names. -/
import Derived.Test.YtaghidcmefbjdaaF0
import Derived.Test.YtaghidcmefbjdaaF1
namespace Go.Proofs.Ytaghidcmefbjdaa.F
open Go.RowKit Go.Proofs.YtaghidcmefbjdaaW.PrintWords Go.Proofs.YtaghidcmefbjdaaW.PrintLast Go.Proofs.YtaghidcmefbjdaaW.PrintMore
attribute [local go_sem] max2_int min2_int max_two min_two max_three min_three max_four min_four   -- for this text's walks alone
set_option linter.unusedVariables false
set_option linter.unusedSimpArgs false

/-! ### laws_heldShapeS: function 25 -/
def laws_heldShapeS.l0 : Nat → List (S46) → Int → Int → Option (Int)
 | 0, _, _, _ => none
 | k + 1, x0, x1, x5 => if x5 < (x0.length : Int) then (if 0 ≤ x5 then ((laws_heldIntS.f k ((rd_T46 x0 x5).f0) x1).bind fun t310 => (if t310 < 0 then (some (-1)) else ((laws_heldIntS.f k ((rd_T46 x0 x5).f1) t310).bind fun t312 => (if t312 < 0 then (some (-1)) else (laws_heldShapeS.l0 k x0 t312 (wrap64 (x5 + 1))))))) else (none)) else (some x1)
def laws_heldShapeS.f (k : Nat) (l0 : List (S46)) (a1 : Int) : Option (Int) := laws_heldShapeS.l0 k l0 a1 0
theorem laws_heldShapeS.mono_l : ∀ k, (∀ y0 y1 y2, LeO (laws_heldShapeS.l0 k y0 y1 y2) (laws_heldShapeS.l0 (k + 1) y0 y1 y2))
 | 0 => fun _ _ _ r h => by simp [laws_heldShapeS.l0] at h
 | k + 1 => by
  have ih0 := laws_heldShapeS.mono_l k
  ·intro y0 y1 y2
   unfold laws_heldShapeS.l0
   repeat' first
   | (with_reducible exact ih0 _ _ _)
   | (with_reducible exact laws_heldIntS.mono _ _ _)
   | (with_reducible exact LeO.refl _)
   | (with_reducible exact LeO.none _)
   | (with_reducible refine LeO.ite ?_ ?_)
   | (with_reducible refine LeO.bind ?_ (fun _ => ?_))
   | exact ih0 _ _ _
   | exact laws_heldIntS.mono _ _ _
   | exact LeO.none _
   | refine LeO.ite ?_ ?_
   | refine LeO.bind ?_ (fun _ => ?_)
theorem laws_heldShapeS.mono : ∀ a0 a1 k, LeO (laws_heldShapeS.f k a0 a1) (laws_heldShapeS.f (k + 1) a0 a1) := by
 intro a0 a1 k
 have ih0 := laws_heldShapeS.mono_l k
 unfold laws_heldShapeS.f
 repeat' first
   | (with_reducible exact ih0 _ _ _)
   | (with_reducible exact laws_heldIntS.mono _ _ _)
   | (with_reducible exact LeO.refl _)
   | (with_reducible exact LeO.none _)
   | (with_reducible refine LeO.ite ?_ ?_)
   | (with_reducible refine LeO.bind ?_ (fun _ => ?_))
   | exact ih0 _ _ _
   | exact laws_heldIntS.mono _ _ _
   | exact LeO.none _
   | refine LeO.ite ?_ ?_
   | refine LeO.bind ?_ (fun _ => ?_)
set_option maxHeartbeats 8000000 in
set_option maxRecDepth 100000 in
theorem laws_heldShapeS.calls (k : Nat) (A0 : Option Addr) (c0 : Nat) (l0 : List (S46)) (a1 : Int) (r : Int) (w : World) (hr0 : Kd.C k46 w A0 l0.length l0) (hc0 : l0.length ≤ c0) (h : laws_heldShapeS.f k l0 a1 = some r) :
  Calls Try.prog 25 #[.slice A0 l0.length c0, .int .i64 a1] w fun e w' => e = .returned (.int .i64 r) ∧ Drawn0 w w' := by
 have HR0 := Aside0.mk hr0
 have HC0 := Aside0.mk hc0
 clear hr0 hc0
 have H : (laws_heldShapeS.l0 k l0 a1 0) = some r := h
 clear h
 have H' := Aside0.mk H
 clear H
 go_enter Try.func25, Try.ntmps25
 go_wp2
 go_loopg [1, 5] k (fun kq v1 v5 w' => ∃ (x1_1 : Int) (x5_1 : Int), v1 = .int .i64 x1_1 ∧ v5 = .int .i64 x5_1 ∧ Aside0 (laws_heldShapeS.l0 kq l0 x1_1 x5_1 = some r) ∧ Aside0 (kq ≤ k) ∧ Drawn0 w w')
 case atStart => exact ⟨(a1), (0), (by first | rfl | (simp; done) | (simp [*]; done)), (by first | rfl | (simp; done) | (simp [*]; done)), H', ⟨Nat.le_refl _⟩, by repeat (first | exact Drawn0.refl _ | apply Drawn0.step)⟩
 case round =>
  clear H'
  try clear c2
  try clear p2
  obtain ⟨x1_1, x5_1, rfl, rfl, HA, HK1, ⟨m1, rfl⟩⟩ := hrel
  cases gk with
  | zero => exact absurd HA.out (by simp [laws_heldShapeS.l0])
  | succ k1 =>
   have H := HA.out
   clear HA
   simp only [laws_heldShapeS.l0] at H
   by_cases c3 : x5_1 < (l0.length : Int)
   ·rw [if_pos c3] at H
    have c3b0 : decide (x5_1 < (l0.length : Int)) = true := decide_eq_true c3
    clear c3
    by_cases c4 : 0 ≤ x5_1
    ·rw [if_pos c4] at H
     have c4b0 : decide (0 ≤ x5_1) = true := decide_eq_true c4
     clear c4
     replace H := Option.bind_eq_some_iff.mp H
     obtain ⟨t310, A50, H⟩ := H
     replace H : (if t310 < 0 then (some (-1)) else ((laws_heldIntS.f k1 ((rd_T46 l0 x5_1).f1) t310).bind fun t312 => (if t312 < 0 then (some (-1)) else (laws_heldShapeS.l0 k1 l0 t312 (wrap64 (x5_1 + 1)))))) = some r := H
     have A5 := Aside0.mk A50
     clear A50
     by_cases c6 : t310 < 0
     ·rw [if_pos c6] at H
      have c6b0 : decide (t310 < 0) = true := decide_eq_true c6
      clear c6
      obtain rfl := Option.some.inj H
      have p309 : 0 ≤ (x5_1 : Int) := of_decide_eq_true (by first | (with_reducible assumption) | assumption)
      have q309 : x5_1 < (l0.length : Int) := of_decide_eq_true (by first | (with_reducible assumption) | assumption)
      obtain ⟨ad309, A309_0, c309_0, A309_1, c309_1, e309, hx309_0, hx309_1, hl309_0, hi309_0, hl309_1, hi309_1⟩ := at_T46 HR0.out x5_1 p309 q309
      cases e309
      have HR309_0 := Aside0.mk hi309_0
      have HC309_0 := Aside0.mk hl309_0
      clear hi309_0 hl309_0
      have HR309_1 := Aside0.mk hi309_1
      have HC309_1 := Aside0.mk hl309_1
      clear hi309_1 hl309_1
      replace p309 := eq_true p309
      replace q309 := eq_true q309
      go_wp2_with (first | ((with_reducible refine gate_callee (f := 43) rfl ?_); refine zG (some 18) Try.func43 #[.slice A309_0 ((rd_T46 l0 x5_1).f0).length c309_0, .int .i64 x1_1] ?_; (with_reducible refine (laws_heldIntS.calls k1 _ _ ((rd_T46 l0 x5_1).f0) x1_1 t310 _ ?side1 ?side2 A5.out).mono ?_); (case side1 => repeat (first | exact HR309_0.out | (with_reducible refine Kd.C_alloc ?_ _) | (with_reducible refine Kd.C_drewN ?_ _) | (with_reducible refine Kd.C_drew ?_))); (case side2 => exact HC309_0.out); rintro e w' ⟨rfl, ⟨nd, rfl⟩⟩; refine ⟨_, rfl, ?_⟩))
      go_ret
      exact ⟨by first | rfl | (simp; done) | (simp [*]; done), by repeat (first | exact Drawn0.refl _ | apply Drawn0.step)⟩
     ·rw [if_neg c6] at H
      have c6b0 : decide (t310 < 0) = false := decide_eq_false c6
      clear c6
      replace H := Option.bind_eq_some_iff.mp H
      obtain ⟨t312, A70, H⟩ := H
      replace H : (if t312 < 0 then (some (-1)) else (laws_heldShapeS.l0 k1 l0 t312 (wrap64 (x5_1 + 1)))) = some r := H
      have A7 := Aside0.mk A70
      clear A70
      by_cases c8 : t312 < 0
      ·rw [if_pos c8] at H
       have c8b0 : decide (t312 < 0) = true := decide_eq_true c8
       clear c8
       obtain rfl := Option.some.inj H
       have p309 : 0 ≤ (x5_1 : Int) := of_decide_eq_true (by first | (with_reducible assumption) | assumption)
       have q309 : x5_1 < (l0.length : Int) := of_decide_eq_true (by first | (with_reducible assumption) | assumption)
       obtain ⟨ad309, A309_0, c309_0, A309_1, c309_1, e309, hx309_0, hx309_1, hl309_0, hi309_0, hl309_1, hi309_1⟩ := at_T46 HR0.out x5_1 p309 q309
       cases e309
       have HR309_0 := Aside0.mk hi309_0
       have HC309_0 := Aside0.mk hl309_0
       clear hi309_0 hl309_0
       have HR309_1 := Aside0.mk hi309_1
       have HC309_1 := Aside0.mk hl309_1
       clear hi309_1 hl309_1
       replace p309 := eq_true p309
       replace q309 := eq_true q309
       go_wp2_with (first | ((with_reducible refine gate_callee (f := 43) rfl ?_); refine zG (some 18) Try.func43 #[.slice A309_0 ((rd_T46 l0 x5_1).f0).length c309_0, .int .i64 x1_1] ?_; (with_reducible refine (laws_heldIntS.calls k1 _ _ ((rd_T46 l0 x5_1).f0) x1_1 t310 _ ?side1 ?side2 A5.out).mono ?_); (case side1 => repeat (first | exact HR309_0.out | (with_reducible refine Kd.C_alloc ?_ _) | (with_reducible refine Kd.C_drewN ?_ _) | (with_reducible refine Kd.C_drew ?_))); (case side2 => exact HC309_0.out); rintro e w' ⟨rfl, ⟨nd, rfl⟩⟩; refine ⟨_, rfl, ?_⟩; have p311 : 0 ≤ (x5_1 : Int) := of_decide_eq_true (by first | (with_reducible assumption) | assumption); have q311 : x5_1 < (l0.length : Int) := of_decide_eq_true (by first | (with_reducible assumption) | assumption); obtain ⟨ad311, A311_0, c311_0, A311_1, c311_1, e311, hx311_0, hx311_1, hl311_0, hi311_0, hl311_1, hi311_1⟩ := at_T46 HR0.out x5_1 p311 q311; obtain rfl : ad309 = ad311 := (by injection e311); have HR311_0 := Aside0.mk hi311_0; have HC311_0 := Aside0.mk hl311_0; clear hi311_0 hl311_0; have HR311_1 := Aside0.mk hi311_1; have HC311_1 := Aside0.mk hl311_1; clear hi311_1 hl311_1; replace p311 := eq_true p311; replace q311 := eq_true q311; have ea_ := Option.some.inj (hx309_0.symm.trans hx311_0); injection ea_ with ea_ en_ ec_; subst ea_; subst ec_; clear en_; have ea_ := Option.some.inj (hx309_1.symm.trans hx311_1); injection ea_ with ea_ en_ ec_; subst ea_; subst ec_; clear en_) | ((with_reducible refine gate_callee (f := 43) rfl ?_); refine zG (some 27) Try.func43 #[.slice A309_1 ((rd_T46 l0 x5_1).f1).length c309_1, .int .i64 t310] ?_; (with_reducible refine (laws_heldIntS.calls k1 _ _ ((rd_T46 l0 x5_1).f1) t310 t312 _ ?side1 ?side2 A7.out).mono ?_); (case side1 => repeat (first | exact HR311_1.out | (with_reducible refine Kd.C_alloc ?_ _) | (with_reducible refine Kd.C_drewN ?_ _) | (with_reducible refine Kd.C_drew ?_))); (case side2 => exact HC311_1.out); rintro e w' ⟨rfl, ⟨nd, rfl⟩⟩; refine ⟨_, rfl, ?_⟩))
       go_ret
       exact ⟨by first | rfl | (simp; done) | (simp [*]; done), by repeat (first | exact Drawn0.refl _ | apply Drawn0.step)⟩
      ·rw [if_neg c8] at H
       have c8b0 : decide (t312 < 0) = false := decide_eq_false c8
       clear c8
       have H' := Aside0.mk H
       clear H
       have p309 : 0 ≤ (x5_1 : Int) := of_decide_eq_true (by first | (with_reducible assumption) | assumption)
       have q309 : x5_1 < (l0.length : Int) := of_decide_eq_true (by first | (with_reducible assumption) | assumption)
       obtain ⟨ad309, A309_0, c309_0, A309_1, c309_1, e309, hx309_0, hx309_1, hl309_0, hi309_0, hl309_1, hi309_1⟩ := at_T46 HR0.out x5_1 p309 q309
       cases e309
       have HR309_0 := Aside0.mk hi309_0
       have HC309_0 := Aside0.mk hl309_0
       clear hi309_0 hl309_0
       have HR309_1 := Aside0.mk hi309_1
       have HC309_1 := Aside0.mk hl309_1
       clear hi309_1 hl309_1
       replace p309 := eq_true p309
       replace q309 := eq_true q309
       go_wp2_with (first | ((with_reducible refine gate_callee (f := 43) rfl ?_); refine zG (some 18) Try.func43 #[.slice A309_0 ((rd_T46 l0 x5_1).f0).length c309_0, .int .i64 x1_1] ?_; (with_reducible refine (laws_heldIntS.calls k1 _ _ ((rd_T46 l0 x5_1).f0) x1_1 t310 _ ?side1 ?side2 A5.out).mono ?_); (case side1 => repeat (first | exact HR309_0.out | (with_reducible refine Kd.C_alloc ?_ _) | (with_reducible refine Kd.C_drewN ?_ _) | (with_reducible refine Kd.C_drew ?_))); (case side2 => exact HC309_0.out); rintro e w' ⟨rfl, ⟨nd, rfl⟩⟩; refine ⟨_, rfl, ?_⟩; have p311 : 0 ≤ (x5_1 : Int) := of_decide_eq_true (by first | (with_reducible assumption) | assumption); have q311 : x5_1 < (l0.length : Int) := of_decide_eq_true (by first | (with_reducible assumption) | assumption); obtain ⟨ad311, A311_0, c311_0, A311_1, c311_1, e311, hx311_0, hx311_1, hl311_0, hi311_0, hl311_1, hi311_1⟩ := at_T46 HR0.out x5_1 p311 q311; obtain rfl : ad309 = ad311 := (by injection e311); have HR311_0 := Aside0.mk hi311_0; have HC311_0 := Aside0.mk hl311_0; clear hi311_0 hl311_0; have HR311_1 := Aside0.mk hi311_1; have HC311_1 := Aside0.mk hl311_1; clear hi311_1 hl311_1; replace p311 := eq_true p311; replace q311 := eq_true q311; have ea_ := Option.some.inj (hx309_0.symm.trans hx311_0); injection ea_ with ea_ en_ ec_; subst ea_; subst ec_; clear en_; have ea_ := Option.some.inj (hx309_1.symm.trans hx311_1); injection ea_ with ea_ en_ ec_; subst ea_; subst ec_; clear en_) | ((with_reducible refine gate_callee (f := 43) rfl ?_); refine zG (some 27) Try.func43 #[.slice A309_1 ((rd_T46 l0 x5_1).f1).length c309_1, .int .i64 t310] ?_; (with_reducible refine (laws_heldIntS.calls k1 _ _ ((rd_T46 l0 x5_1).f1) t310 t312 _ ?side1 ?side2 A7.out).mono ?_); (case side1 => repeat (first | exact HR311_1.out | (with_reducible refine Kd.C_alloc ?_ _) | (with_reducible refine Kd.C_drewN ?_ _) | (with_reducible refine Kd.C_drew ?_))); (case side2 => exact HC311_1.out); rintro e w' ⟨rfl, ⟨nd, rfl⟩⟩; refine ⟨_, rfl, ?_⟩))
       go_roundg k1
       case measure => have := HK1.out; omega
       case rel => exact ⟨(t312), (wrap64 (x5_1 + 1)), (by first | rfl | (simp; done) | (simp [*]; done)), (by first | rfl | (simp; done) | (simp [*]; done)), H', ⟨by have := HK1.out; omega⟩, by repeat (first | exact Drawn0.refl _ | apply Drawn0.step)⟩
    ·rw [if_neg c4] at H
     exact absurd H (by simp)
   ·rw [if_neg c3] at H
    have c3b0 : decide (x5_1 < (l0.length : Int)) = false := decide_eq_false c3
    clear c3
    obtain rfl := Option.some.inj H
    go_wp2
    go_ret
    exact ⟨by first | rfl | (simp; done) | (simp [*]; done), by repeat (first | exact Drawn0.refl _ | apply Drawn0.step)⟩

-- NOT PRINTED: function 6 (laws_FnExactRibbonsInside)

-- NOT PRINTED: function 26 (spec_RibbonsAround)

-- NOT PRINTED: function 27 (impl_RibbonsAround)

-- NOT PRINTED: function 7 (laws_FnExactRibbonsAround)

end Go.Proofs.Ytaghidcmefbjdaa.F
