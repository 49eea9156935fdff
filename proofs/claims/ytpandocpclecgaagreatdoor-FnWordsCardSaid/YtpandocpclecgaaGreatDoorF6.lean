/- For each Go function named below: the plain Lean function that it computes, and that its call returns just that; conditions: those that each theorem names. -/
import Derived.Test.YtpandocpclecgaaGreatDoorF0
import Derived.Test.YtpandocpclecgaaGreatDoorF1
import Derived.Test.YtpandocpclecgaaGreatDoorF5
namespace Go.Proofs.YtpandocpclecgaaGreatDoor.F
open Go.RowKit Go.Proofs.YtpandocpclecgaaGreatDoorW.PrintWords Go.Proofs.YtpandocpclecgaaGreatDoorW.PrintLast Go.Proofs.YtpandocpclecgaaGreatDoorW.PrintMore
attribute [local go_sem] max2_int min2_int max_two min_two max_three min_three max_four min_four   -- for this text's walks alone
set_option linter.unusedVariables false
set_option linter.unusedSimpArgs false

mutual
def spec_l2All.l0 : Nat → Int → List (List Int) → Int → Option ((List (List Int)))
 | 0, _, _, _ => none
 | k + 1, x0, x5, x6 => if x6 ≥ 1 then ((spec_l2All.f k (wrap64 (x0 - x6)) x6).bind fun t295 => (spec_l2All.l1 k x0 x5 x6 t295 0)) else (some x5)
def spec_l2All.l1 : Nat → Int → List (List Int) → Int → List (List Int) → Int → Option ((List (List Int)))
 | 0, _, _, _, _, _ => none
 | k + 1, x0, x5, x6, x7, x8 => if x8 < (x7.length : Int) then ((some (([x6] : List Int) : List Int)).bind fun y298 => (if 0 ≤ x8 then (if y298.length + (rd_L2 x7 x8).length < 17592186044416 then (if x5.length < 5864062014805 then (spec_l2All.l1 k x0 (x5 ++ [(y298 ++ (rd_L2 x7 x8))]) x6 x7 (wrap64 (x8 + 1))) else (none)) else (none)) else (none))) else (spec_l2All.l0 k x0 x5 (wrap64 (x6 - 1)))
def spec_l2All.f : Nat → Int → Int → Option ((List (List Int)))
 | 0, _, _ => none
 | k + 1, a0, a1 => (some (([] : List (List Int)) : List (List Int))).bind fun y285 => (if a0 = 0 then (if y285.length < 5864062014805 then (some (y285 ++ [(([] : List Int))])) else (none)) else ((spec_l1Min.f a0 a1).bind fun t294 => (spec_l2All.l0 k a0 y285 t294)))
end
set_option maxHeartbeats 8000000 in
set_option maxRecDepth 100000 in
theorem spec_l2All.calls (k : Nat) : ∀ (a0 : Int) (a1 : Int) (r : List (List Int)) (w : World) (h : spec_l2All.f k a0 a1 = some r),
  Calls Tryz.prog 72 #[.int .i64 a0, .int .i64 a1] w fun e w' => ∃ v0_ : Value, e = .returned (v0_) ∧ Kd.S (Kd.slice 3 (Kd.int .i64)) 24 w' w.heap.size (fun _ => True) v0_ r ∧ Below w.heap.size w w' := by
 induction k using Nat.strongRecOn with
 | _ k ih =>
 intro a0 a1 r w h
 cases k with
 | zero => exact absurd h (by simp [spec_l2All.f])
 | succ k =>
 simp only [spec_l2All.f] at h
 have HB := Aside0.mk (Below.refl w.heap.size w)
 have H : ((some (([] : List (List Int)) : List (List Int))).bind fun y285 => (if a0 = 0 then (if y285.length < 5864062014805 then (some (y285 ++ [(([] : List Int))])) else (none)) else ((spec_l1Min.f a0 a1).bind fun t294 => (spec_l2All.l0 k a0 y285 t294)))) = some r := h
 clear h
 obtain ⟨y285, hy285⟩ : ∃ y_ : List (List Int), y_ = (([] : List (List Int))) := ⟨_, rfl⟩
 replace H : (if a0 = 0 then (if y285.length < 5864062014805 then (some (y285 ++ [(([] : List Int))])) else (none)) else ((spec_l1Min.f a0 a1).bind fun t294 => (spec_l2All.l0 k a0 y285 t294))) = some r := zY hy285 H
 have Ny285 := Aside0.mk hy285
 clear hy285
 by_cases c3 : a0 = 0
 ·rw [if_pos c3] at H
  have c3b0 : (a0 == 0) = true := beq_iff_eq.mpr c3
  have c3b1 : (a0 != 0) = false := bne_eq_false_iff_eq.mpr c3
  clear c3
  obtain ⟨y288, hy288⟩ : ∃ y_ : List Int, y_ = (([] : List Int)) := ⟨_, rfl⟩
  replace H : (if y285.length < 5864062014805 then (some (y285 ++ [y288])) else (none)) = some r := zY hy288 H
  have Ny288 := Aside0.mk hy288
  clear hy288
  by_cases c4 : y285.length < 5864062014805
  ·rw [if_pos c4] at H
   have LMc4 := Aside0.mk c4
   clear c4
   obtain ⟨y291, hy291⟩ : ∃ y_ : List (List Int), y_ = (y285 ++ [y288]) := ⟨_, rfl⟩
   replace H : (some y291) = some r := zY hy291 H
   have Ny291 := Aside0.mk hy291
   clear hy291
   obtain rfl := Option.some.inj H
   go_enter Tryz.func72, Tryz.ntmps72
   go_wp2_with (first | ((with_reducible refine gate_dst (N := 9) rfl ?_); refine Kd.S_lit (Kd.slice 3 (Kd.int .i64)) _ 24 ?hg (N := 9) ?hd (xs := ([] : List (List Int))) (inner := []) (ok := fun _ => True) (okp := fun _ => True) ?hr ?hp (fun _ hk => hk) trivial (Below.refl _ _) (Nat.le_refl _) (by simp) ?_; (case hd => rfl); (case hg => rfl); (case hr => first | (go_simp; done) | (go_simp; rfl)); (case hp => exact (Reps.none _ _)); intro v286 w5 ho6 hb hg_ hnew_; clear hg_ hnew_; (first | rw [← Ny285.out] at ho6 | (simp only [Int.reduceToNat] at ho6; rw [← Ny285.out] at ho6)); have n0_ := Aside0.mk (Kd.S_lower ho6 (below_size (zB HB.out))); have n1_ := Aside0.mk (below_step (zB HB.out) hb); clear HB; have HO287 := n0_; have HB := n1_; clear n0_ n1_; clear hb ho6) | ((with_reducible refine gate_dst (N := 13) rfl ?_); refine Kd.R_lit (Kd.int .i64) _ 3 ?hg (N := 13) ?hd (xs := ([] : List Int)) (inner := []) (ok := fun _ => True) (okp := fun _ => True) ?hr ?hp (fun _ hk => hk) trivial (Below.refl _ _) (Nat.le_refl _) (by simp) ?_; (case hd => rfl); (case hg => rfl); (case hr => first | (go_simp; done) | (go_simp; rfl)); (case hp => exact (Reps.none _ _)); intro v289 w7 ho8 hb hg_ hnew_; clear hg_ hnew_; (first | rw [← Ny288.out] at ho8 | (simp only [Int.reduceToNat] at ho8; rw [← Ny288.out] at ho8)); have n0_ := Aside0.mk (Kd.S_elder' (zS HO287.out) (Kd.R_base ho8) hb); have n1_ := Aside0.mk (Kd.R_lower ho8 (below_size (zB HB.out))); have n2_ := Aside0.mk (below_step (zB HB.out) hb); clear HO287; clear HB; have HO287 := n0_; have HO290 := n1_; have HB := n2_; clear n0_ n1_ n2_; clear hb ho8; obtain ⟨Ao10, co10, eo10⟩ := Kd.R_slice HO290.out; subst eo10) | ((with_reducible refine gate_builtin (b := .append) (xs := #[.tmp 12, .tmp 14]) rfl ?_); at_builtin; refine Kd.S_append (Kd.slice 3 (Kd.int .i64)) (w0 := w) w.heap.size rfl (.tmp 12) (.tmp 14) 27 24 (.slice none 0 0) 24 rfl Tryz.underlying27 info24 rfl (by decide) (by omega) v286 y285 y288 [.slice Ao10 y288.length co10] (fun _ => True) (fun k_ => some k_ = (.slice Ao10 y288.length co10 : Value).ownBlock) rfl rfl ?aP (fun k_ hk_ => ((Kd.R_mono (ok' := fun k_ => ((fun _ => True)) k_ ∧ some k_ ≠ (v286 : Value).ownBlock) (Kd.R_apart' (HO290.out) (Kd.S_typed HO287.out) (by decide)) (fun k_ hk => ⟨trivial, hk.2⟩))).1 k_ hk_.symm) ?aF ?aO ?aB ?aS ?aL ?_; (case aP => exact Kd.M_row (Kd.R_mono (Kd.R_tight rfl (Kd.R_mono (ok' := fun k_ => ((fun _ => True)) k_ ∧ some k_ ≠ (v286 : Value).ownBlock) (Kd.R_apart' (HO290.out) (Kd.S_typed HO287.out) (by decide)) (fun k_ hk => ⟨trivial, hk.2⟩))) (fun _ h_ => h_))); (case aB => exact (zB HB.out)); (case aF => exact (fun _ _ => trivial)); (case aO => exact (zS (Kd.S_mono HO287.out (fun k_ hk => ⟨trivial, fun e_ => hk.2 e_⟩)))); (case aS => exact (below_size (zB HB.out))); (case aL => have := LMc4.out; omega); intro v292 w9 ho hb hg hat; rw [← Ny291.out] at ho; have n0_ := Aside0.mk (hb); have n1_ := Aside0.mk (ho); clear HB; clear HO287; clear HO290; have HB := n0_; have HO293 := n1_; clear n0_ n1_; clear ho hb hg hat))
   go_ret
   exact ⟨_, zr, zS HO293.out, zB HB.out⟩
  ·rw [if_neg c4] at H
   exact absurd H (by simp)
 ·rw [if_neg c3] at H
  have c3b0 : (a0 == 0) = false := beq_eq_false_iff_ne.mpr c3
  have c3b1 : (a0 != 0) = true := bne_iff_ne.mpr c3
  replace H := Option.bind_eq_some_iff.mp H
  obtain ⟨t294, A110, H⟩ := H
  replace H : (spec_l2All.l0 k a0 y285 t294) = some r := H
  have A11 := Aside0.mk A110
  clear A110
  have H' := Aside0.mk H
  clear H
  go_enter Tryz.func72, Tryz.ntmps72
  go_wp2_with (first | ((with_reducible refine gate_dst (N := 9) rfl ?_); refine Kd.S_lit (Kd.slice 3 (Kd.int .i64)) _ 24 ?hg (N := 9) ?hd (xs := ([] : List (List Int))) (inner := []) (ok := fun _ => True) (okp := fun _ => True) ?hr ?hp (fun _ hk => hk) trivial (Below.refl _ _) (Nat.le_refl _) (by simp) ?_; (case hd => rfl); (case hg => rfl); (case hr => first | (go_simp; done) | (go_simp; rfl)); (case hp => exact (Reps.none _ _)); intro v286 w12 ho13 hb hg_ hnew_; clear hg_ hnew_; (first | rw [← Ny285.out] at ho13 | (simp only [Int.reduceToNat] at ho13; rw [← Ny285.out] at ho13)); have n0_ := Aside0.mk (Kd.S_lower ho13 (below_size (zB HB.out))); have n1_ := Aside0.mk (below_step (zB HB.out) hb); clear HB; have HO287 := n0_; have HB := n1_; clear n0_ n1_; clear hb ho13) | ((with_reducible refine gate_callee (f := 80) rfl ?_); refine zG (some 18) Tryz.func80 #[.int .i64 a0, .int .i64 a1] ?_; (with_reducible refine (spec_l1Min.calls a0 a1 t294 _ A11.out).mono ?_); rintro e w' ⟨rfl, ⟨nd, rfl⟩⟩; refine ⟨_, rfl, ?_⟩))
  go_loopg [5, 6] k (fun kq v5 v6 w' => ∃ (x5_1 : List (List Int)) (x6_1 : Int), v6 = .int .i64 x6_1 ∧ Aside0 (spec_l2All.l0 kq a0 x5_1 x6_1 = some r) ∧ Aside0 (kq ≤ k) ∧ Aside0 (Kd.S (Kd.slice 3 (Kd.int .i64)) 24 w' w.heap.size (fun _ => True) v5 x5_1) ∧ Aside0 (Below w.heap.size w w'))
  case atStart => exact ⟨(y285), (t294), zs, H', ⟨Nat.le_refl _⟩, ⟨zS HO287.out⟩, ⟨zB HB.out⟩⟩
  case round =>
   clear H'
   try clear p2
   try clear c3
   try clear c3b0
   try clear c3b1
   try clear c4
   try clear c7
   try clear c8
   obtain ⟨x5_1, x6_1, rfl, HA, HK1, HO_5, HB⟩ := hrel
   cases gk with
   | zero => exact absurd HA.out (by simp [spec_l2All.l0])
   | succ k1 =>
    have H := HA.out
    clear HA
    simp only [spec_l2All.l0] at H
    by_cases c14 : x6_1 ≥ 1
    ·rw [if_pos c14] at H
     have c14b0 : decide (1 ≤ x6_1) = true := decide_eq_true c14
     clear c14
     replace H := Option.bind_eq_some_iff.mp H
     obtain ⟨t295, A150, H⟩ := H
     replace H : (spec_l2All.l1 k1 a0 x5_1 x6_1 t295 0) = some r := H
     have A15 := Aside0.mk A150
     clear A150
     have H' := Aside0.mk H
     clear H
     go_wp2_with (first | ((with_reducible refine gate_callee (f := 72) rfl ?_); refine zG (some 27) Tryz.func72 #[.int .i64 (wrap64 (a0 - x6_1)), .int .i64 x6_1] ?_; (with_reducible refine (ih k1 (by have := HK1.out; omega) (wrap64 (a0 - x6_1)) x6_1 t295 _ A15.out).mono ?_); rintro e w16 ⟨v296, rfl, ho0, hb⟩; refine ⟨_, rfl, ?_⟩; have n0_ := Aside0.mk (Kd.S_elder' (zS HO_5.out) (Kd.S_base ho0) hb); have n1_ := Aside0.mk (Kd.S_lower (Kd.S_new' ho0 (Kd.S_lt (zS HO_5.out))) (below_size (zB HB.out))); have n2_ := Aside0.mk (below_step (zB HB.out) hb); clear HO_5; clear HB; have HO_5 := n0_; have HO297 := n1_; have HB := n2_; clear n0_ n1_ n2_; (try clear hb); (try clear hb2); (try clear hk); (try clear hi); (try clear ho0)))
     go_loopg [5, 8] k1 (fun kq v5 v8 w' => ∃ (x5_2 : List (List Int)) (x8_2 : Int), v8 = .int .i64 x8_2 ∧ Aside0 (spec_l2All.l1 kq a0 x5_2 x6_1 t295 x8_2 = some r) ∧ Aside0 (kq ≤ k1) ∧ Aside0 (Kd.S (Kd.slice 3 (Kd.int .i64)) 24 w' w.heap.size (fun k_ => some k_ ≠ (v296 : Value).ownBlock) v5 x5_2) ∧ Aside0 (Kd.S (Kd.slice 3 (Kd.int .i64)) 24 w' w.heap.size (fun k_ => some k_ ≠ (v5 : Value).ownBlock) v296 t295) ∧ Aside0 (Below w.heap.size w w'))
     case atStart => exact ⟨(x5_1), (0), zs, H', ⟨Nat.le_refl _⟩, ⟨zS (Kd.S_mono HO_5.out (fun _ hk => hk.2))⟩, ⟨zS (Kd.S_mono HO297.out (fun _ hk => hk.2))⟩, ⟨zB HB.out⟩⟩
     case round =>
      clear H'
      try clear c1
      try clear p2
      try clear c3
      try clear c3b0
      try clear c3b1
      try clear c4
      try clear p6
      try clear c7
      try clear c8
      try clear c14
      try clear c14b0
      try clear p2
      obtain ⟨x5_2, x8_2, rfl, HA, HK2, HO_5, HO_7, HB⟩ := hrel
      cases gk with
      | zero => exact absurd HA.out (by simp [spec_l2All.l1])
      | succ k2 =>
       have H := HA.out
       clear HA
       simp only [spec_l2All.l1] at H
       by_cases c17 : x8_2 < (t295.length : Int)
       ·rw [if_pos c17] at H
        have c17b0 : decide (x8_2 < (t295.length : Int)) = true := decide_eq_true c17
        clear c17
        obtain ⟨y298, hy298⟩ : ∃ y_ : List Int, y_ = (([x6_1] : List Int)) := ⟨_, rfl⟩
        replace H : (if 0 ≤ x8_2 then (if y298.length + (rd_L2 t295 x8_2).length < 17592186044416 then (if x5_2.length < 5864062014805 then (spec_l2All.l1 k2 a0 (x5_2 ++ [(y298 ++ (rd_L2 t295 x8_2))]) x6_1 t295 (wrap64 (x8_2 + 1))) else (none)) else (none)) else (none)) = some r := zY hy298 H
        have Ny298 := Aside0.mk hy298
        clear hy298
        by_cases c18 : 0 ≤ x8_2
        ·rw [if_pos c18] at H
         have c18b0 : decide (0 ≤ x8_2) = true := decide_eq_true c18
         clear c18
         by_cases c19 : y298.length + (rd_L2 t295 x8_2).length < 17592186044416
         ·rw [if_pos c19] at H
          have LMc19 := Aside0.mk c19
          clear c19
          obtain ⟨y302, hy302⟩ : ∃ y_ : List Int, y_ = (y298 ++ (rd_L2 t295 x8_2)) := ⟨_, rfl⟩
          replace H : (if x5_2.length < 5864062014805 then (spec_l2All.l1 k2 a0 (x5_2 ++ [y302]) x6_1 t295 (wrap64 (x8_2 + 1))) else (none)) = some r := zY hy302 H
          have Ny302 := Aside0.mk hy302
          clear hy302
          by_cases c20 : x5_2.length < 5864062014805
          ·rw [if_pos c20] at H
           have LMc20 := Aside0.mk c20
           clear c20
           obtain ⟨y305, hy305⟩ : ∃ y_ : List (List Int), y_ = (x5_2 ++ [y302]) := ⟨_, rfl⟩
           replace H : (spec_l2All.l1 k2 a0 y305 x6_1 t295 (wrap64 (x8_2 + 1))) = some r := zY hy305 H
           have Ny305 := Aside0.mk hy305
           clear hy305
           have H' := Aside0.mk H
           clear H
           obtain ⟨Ao21, co21, eo21⟩ := Kd.S_slice HO_7.out
           subst eo21
           go_wp2_with (first | ((with_reducible refine gate_dst (N := 36) rfl ?_); refine Kd.R_lit (Kd.int .i64) _ 3 ?hg (N := 36) ?hd (xs := ([x6_1] : List Int)) (inner := [.int .i64 x6_1]) (ok := fun _ => True) (okp := fun _ => True) ?hr ?hp (fun _ hk => hk) trivial (Below.refl _ _) (Nat.le_refl _) (by simp) ?_; (case hd => rfl); (case hg => rfl); (case hr => first | (go_simp; done) | (go_simp; rfl)); (case hp => exact (Reps.one (show Kd.M (Kd.int .i64) _ _ _ x6_1 [.int .i64 x6_1] from rfl) (Reps.none _ _))); intro v299 w22 ho23 hb hg_ hnew_; clear hg_ hnew_; (first | rw [← Ny298.out] at ho23 | (simp only [Int.reduceToNat] at ho23; rw [← Ny298.out] at ho23)); have n0_ := Aside0.mk (Kd.S_elder' (zS HO_5.out) (Kd.R_base ho23) hb); have n1_ := Aside0.mk (Kd.S_elder' (zS HO_7.out) (Kd.R_base ho23) hb); have n2_ := Aside0.mk (Kd.R_lower ho23 (below_size (zB HB.out))); have n3_ := Aside0.mk (below_step (zB HB.out) hb); clear HO_5; clear HO_7; clear HB; have HO_5 := n0_; have HO_7 := n1_; have HO300 := n2_; have HB := n3_; clear n0_ n1_ n2_ n3_; clear hb ho23; have p301 : 0 ≤ (x8_2 : Int) := zd; have q301 : x8_2 < (t295.length : Int) := zd; obtain ⟨ad301, A301_0, c301_0, e301, hx301_0, hl301_0, hi301_0⟩ := at_L2 (Kd.S_reads' HO_7.out).2.2 x8_2 p301 q301; cases e301; obtain ⟨ce301, hce301, hMe301, hcc301⟩ := Kd.S_get HO_7.out [] x8_2 p301 (by first | exact q301 | exact zd | (have e_ := (Kd.S_reads' HO_7.out).1; omega)); obtain ⟨ve301_0, rfl, ge301_0⟩ := hMe301; have hv301_0 := hcc301 0 _ rfl; rw [Nat.add_zero, show ((Kd.slice 3 (Kd.int .i64))).sz = 1 from rfl, Nat.mul_one] at hv301_0; replace hv301_0 := Option.some.inj (hv301_0.symm.trans hx301_0); rw [hv301_0] at ge301_0; have HL301_0 := Aside0.mk (show Kd.R (Kd.int .i64) 3 _ _ _ _ (rd_L2 t295 x8_2) from ge301_0); clear hv301_0 ge301_0; clear hcc301 hce301; have HR301_0 := Aside0.mk hi301_0; have HC301_0 := Aside0.mk hl301_0; clear hi301_0 hl301_0; replace p301 := eq_true p301; replace q301 := eq_true q301) | ((with_reducible refine gate_builtin (b := .append) (xs := #[.tmp 36, .tmp 40]) rfl ?_); at_builtin; refine Kd.R_append_rows (Kd.int .i64) (w0 := w) w.heap.size rfl (.tmp 36) (.tmp 40) 24 3 (.int .i64 0) 8 rfl Tryz.underlying24 info3 rfl (by decide) (by omega) v299 y298 (rd_L2 t295 x8_2) _ _ _ (fun _ => True) (fun _ => False) rfl rfl ?aO ?aR (fun _ _ h => h) (fun _ h => h.elim) ?aF ?aB ?aS ?aL ?_; (case aR => exact zQ (by repeat (first | (with_reducible exact HR301_0.out) | (with_reducible refine Kd.C_alloc ?_ _) | (with_reducible refine Kd.C_drewN ?_ _) | (with_reducible refine Kd.C_drew ?_) | exact HR301_0.out))); (case aB => exact (zB HB.out)); (case aF => exact (fun _ _ => trivial)); (case aO => exact (zR HO300.out)); (case aS => exact (below_size (zB HB.out))); (case aL => have := LMc19.out; omega); intro v303 w24 ho hb hg hat; rw [← Ny302.out] at ho; have n0_ := Aside0.mk (Kd.S_after (ok := (fun k_ => some k_ ≠ (.slice (some ad301) t295.length co21 : Value).ownBlock)) (zS HO_5.out) hg hat); have n1_ := Aside0.mk (Kd.S_after (ok := (fun k_ => some k_ ≠ (u5 : Value).ownBlock)) (zS HO_7.out) hg hat); have n2_ := Aside0.mk (Kd.R_after (ok := (fun k_ => some k_ ≠ (u5 : Value).ownBlock ∧ some k_ ≠ (.slice (some ad301) t295.length co21 : Value).ownBlock)) (zR (Kd.R_mono HL301_0.out (fun _ hk => ⟨⟨hk.1.1, hk.2⟩, hk.1.2⟩))) hg hat); have n3_ := Aside0.mk (hb); have n4_ := Aside0.mk (ho); clear HO_5; clear HO_7; clear HL301_0; clear HB; clear HO300; have HO_5 := n0_; have HO_7 := n1_; have HL301_0 := n2_; have HB := n3_; have HO304 := n4_; clear n0_ n1_ n2_ n3_ n4_; clear ho hb hg hat; obtain ⟨Ao26, co26, eo26⟩ := Kd.R_slice HO304.out; subst eo26) | ((with_reducible refine gate_builtin (b := .append) (xs := #[.tmp 34, .tmp 42]) rfl ?_); at_builtin; refine Kd.S_append (Kd.slice 3 (Kd.int .i64)) (w0 := w) w.heap.size rfl (.tmp 34) (.tmp 42) 27 24 (.slice none 0 0) 24 rfl Tryz.underlying27 info24 rfl (by decide) (by omega) u5 x5_2 y302 [.slice Ao26 y302.length co26] (fun k_ => some k_ ≠ (.slice (some ad301) t295.length co21 : Value).ownBlock) (fun k_ => some k_ = (.slice Ao26 y302.length co26 : Value).ownBlock) rfl rfl ?aP (fun k_ hk_ => ((Kd.R_mono (ok' := fun k_ => ((fun k_ => some k_ ≠ (.slice (some ad301) t295.length co21 : Value).ownBlock)) k_ ∧ some k_ ≠ (u5 : Value).ownBlock) (Kd.R_apart' (Kd.R_apart' (HO304.out) (Kd.S_typed HO_7.out) (by decide)) (Kd.S_typed HO_5.out) (by decide)) (fun k_ hk => ⟨hk.1.2, hk.2⟩))).1 k_ hk_.symm) ?aF ?aO ?aB ?aS ?aL ?_; (case aP => exact Kd.M_row (Kd.R_mono (Kd.R_tight rfl (Kd.R_mono (ok' := fun k_ => ((fun k_ => some k_ ≠ (.slice (some ad301) t295.length co21 : Value).ownBlock)) k_ ∧ some k_ ≠ (u5 : Value).ownBlock) (Kd.R_apart' (Kd.R_apart' (HO304.out) (Kd.S_typed HO_7.out) (by decide)) (Kd.S_typed HO_5.out) (by decide)) (fun k_ hk => ⟨hk.1.2, hk.2⟩))) (fun _ h_ => h_))); (case aB => exact (zB HB.out)); (case aF => exact (fun k_ hk => Kd.fresh' (Kd.S_lt (zS HO_7.out)) k_ hk)); (case aO => exact (zS (Kd.S_mono HO_5.out (fun k_ hk => ⟨hk.1, fun e_ => hk.2 e_⟩)))); (case aS => exact (below_size (zB HB.out))); (case aL => have := LMc20.out; omega); intro v306 w25 ho hb hg hat; rw [← Ny305.out] at ho; have n0_ := Aside0.mk (Kd.S_after (ok := (fun k_ => some k_ ≠ (.slice Ao26 y302.length co26 : Value).ownBlock)) (zS (Kd.S_mono HO_7.out (fun _ hk => ⟨hk.2, hk.1⟩))) hg hat); have n1_ := Aside0.mk (Kd.R_after (ok := (fun k_ => some k_ ≠ (.slice (some ad301) t295.length co21 : Value).ownBlock ∧ some k_ ≠ (.slice Ao26 y302.length co26 : Value).ownBlock)) (zR (Kd.R_mono HL301_0.out (fun _ hk => ⟨⟨hk.1.2, hk.2⟩, hk.1.1⟩))) hg hat); have n2_ := Aside0.mk (hb); have n3_ := Aside0.mk (ho); clear HO_7; clear HL301_0; clear HB; clear HO_5; clear HO304; have HO_7 := n0_; have HL301_0 := n1_; have HB := n2_; have HO307 := n3_; clear n0_ n1_ n2_ n3_; clear ho hb hg hat))
           go_roundg k2
           case measure => have := HK1.out; have := HK2.out; omega
           case rel => exact ⟨(y305), (wrap64 (x8_2 + 1)), zs, H', ⟨by have := HK1.out; have := HK2.out; omega⟩, ⟨zS HO307.out⟩, ⟨zS (Kd.S_mono HO_7.out (fun _ hk => hk.2))⟩, ⟨zB HB.out⟩⟩
          ·rw [if_neg c20] at H
           exact absurd H (by simp)
         ·rw [if_neg c19] at H
          exact absurd H (by simp)
        ·rw [if_neg c18] at H
         exact absurd H (by simp)
       ·rw [if_neg c17] at H
        have c17b0 : decide (x8_2 < (t295.length : Int)) = false := decide_eq_false c17
        clear c17
        have H' := Aside0.mk H
        clear H
        obtain ⟨Ao27, co27, eo27⟩ := Kd.S_slice HO_7.out
        subst eo27
        go_wp2
        go_roundg k2
        case measure => have := HK1.out; have := HK2.out; omega
        case rel => exact ⟨(x5_2), (wrap64 (x6_1 - 1)), zs, H', ⟨by have := HK1.out; have := HK2.out; omega⟩, ⟨zS (Kd.S_mono HO_5.out (fun _ hk => trivial))⟩, ⟨zB HB.out⟩⟩
    ·rw [if_neg c14] at H
     have c14b0 : decide (1 ≤ x6_1) = false := decide_eq_false c14
     clear c14
     obtain rfl := Option.some.inj H
     go_wp2
     go_ret
     exact ⟨_, zr, zS HO_5.out, zB HB.out⟩

def spec_l2Draw.f (k : Nat) (s0_0 : List Int) (s0_1 : Int) (s0_2 : Int) (a1 : Int) : Option (List Int × Int × Int) := (spec_l1Below.f s0_0 s0_1 s0_2 (wrap64 (a1 + 1))).bind fun bt308 => ((spec_l2All.f k bt308.1 a1).bind fun t311 => ((spec_l1Below.f s0_0 bt308.2.1 bt308.2.2 (t311.length : Int)).bind fun bt314 => (if 0 ≤ bt314.1 then (if bt314.1 < (t311.length : Int) then (some (rd_L2 t311 bt314.1, bt314.2.1, bt314.2.2)) else (none)) else (none))))
set_option maxHeartbeats 8000000 in
set_option maxRecDepth 100000 in
theorem spec_l2Draw.calls (k : Nat) (g : Nat) (s0_0 : List Int) (s0_1 : Int) (s0_2 : Int) (a1 : Int) (r1 : List Int) (r2 : Int) (r3 : Int) (w0 w : World) (hI : IsS67 w0 w g s0_0 s0_1 s0_2) (hB : Below w0.heap.size w0 w) (h : spec_l2Draw.f k s0_0 s0_1 s0_2 a1 = some (r1, r2, r3)) :
  Calls Tryz.prog 55 #[.pointer (some ⟨g, 0, none⟩), .int .i64 a1] w fun e w' => ∃ v0_ : Value, e = .returned (v0_) ∧ Kd.R (Kd.int .i64) 3 w' w.heap.size (fun _ => True) v0_ r1 ∧ IsS67 w0 w' g s0_0 r2 r3 ∧ Below w0.heap.size w0 w' ∧ KeepBut w w' g none := by
 have HI0 := Aside0.mk hI
 have HK := Aside0.mk (KeepBut.refl w g none)
 have HL := Aside0.mk hB.size
 clear hI
 have HW0 := Aside0.mk hB.size
 have HB := Aside0.mk hB
 clear hB
 have H : ((spec_l1Below.f s0_0 s0_1 s0_2 (wrap64 (a1 + 1))).bind fun bt308 => ((spec_l2All.f k bt308.1 a1).bind fun t311 => ((spec_l1Below.f s0_0 bt308.2.1 bt308.2.2 (t311.length : Int)).bind fun bt314 => (if 0 ≤ bt314.1 then (if bt314.1 < (t311.length : Int) then (some (rd_L2 t311 bt314.1, bt314.2.1, bt314.2.2)) else (none)) else (none))))) = some (r1, r2, r3) := h
 clear h
 replace H := Option.bind_eq_some_iff.mp H
 obtain ⟨⟨t308, t309, t310⟩, A30, H⟩ := H
 replace H : ((spec_l2All.f k t308 a1).bind fun t311 => ((spec_l1Below.f s0_0 t309 t310 (t311.length : Int)).bind fun bt314 => (if 0 ≤ bt314.1 then (if bt314.1 < (t311.length : Int) then (some (rd_L2 t311 bt314.1, bt314.2.1, bt314.2.2)) else (none)) else (none)))) = some (r1, r2, r3) := H
 have A3 := Aside0.mk A30
 clear A30
 replace H := Option.bind_eq_some_iff.mp H
 obtain ⟨t311, A40, H⟩ := H
 replace H : ((spec_l1Below.f s0_0 t309 t310 (t311.length : Int)).bind fun bt314 => (if 0 ≤ bt314.1 then (if bt314.1 < (t311.length : Int) then (some (rd_L2 t311 bt314.1, bt314.2.1, bt314.2.2)) else (none)) else (none))) = some (r1, r2, r3) := H
 have A4 := Aside0.mk A40
 clear A40
 replace H := Option.bind_eq_some_iff.mp H
 obtain ⟨⟨t314, t315, t316⟩, A50, H⟩ := H
 replace H : (if 0 ≤ t314 then (if t314 < (t311.length : Int) then (some (rd_L2 t311 t314, t315, t316)) else (none)) else (none)) = some (r1, r2, r3) := H
 have A5 := Aside0.mk A50
 clear A50
 by_cases c6 : 0 ≤ t314
 ·rw [if_pos c6] at H
  have c6b0 : decide (0 ≤ t314) = true := decide_eq_true c6
  clear c6
  by_cases c7 : t314 < (t311.length : Int)
  ·rw [if_pos c7] at H
   have c7b0 : decide (t314 < (t311.length : Int)) = true := decide_eq_true c7
   clear c7
   simp only [Option.some.injEq, Prod.mk.injEq] at H
   obtain ⟨rfl, rfl, rfl⟩ := H
   go_enter Tryz.func55, Tryz.ntmps55
   go_wp2_with (first | ((with_reducible refine gate_callee (f := 36) rfl ?_); refine zG (some 9) Tryz.func36 #[.pointer (some ⟨g, 0, none⟩), .int .i64 (wrap64 (a1 + 1))] ?_; (with_reducible refine (spec_l1Below.calls g s0_0 s0_1 s0_2 (wrap64 (a1 + 1)) t308 t309 t310 w0 _ ?side1 ?side2 A3.out).mono ?_); (case side1 => exact zI67 HI0.out); (case side2 => exact zB1 HB.out (IsS67.ge HI0.out)); rintro e w8 ⟨rfl, hi, hb, hk⟩; refine ⟨_, rfl, ?_⟩; have n0_ := Aside0.mk (KeepBut.trans (zK HK.out) hk (.inl rfl)); have n1_ := Aside0.mk (hb); have n2_ := Aside0.mk (hi); clear HK; clear HB; clear HI0; have HK := n0_; have HB := n1_; have HI0 := n2_; clear n0_ n1_ n2_; (try clear hb); (try clear hb2); (try clear hk); (try clear hi)) | ((with_reducible refine gate_callee (f := 72) rfl ?_); refine zG (some 11) Tryz.func72 #[.int .i64 t308, .int .i64 a1] ?_; (with_reducible refine (spec_l2All.calls k t308 a1 t311 _ A4.out).mono ?_); rintro e w9 ⟨v312, rfl, ho0, hb⟩; refine ⟨_, rfl, ?_⟩; have n0_ := Aside0.mk (Kd.S_lower ho0 (keep_size (w := w) (g := g) (row := none) (zK HK.out))); have n1_ := Aside0.mk (IsS67.below (zI67 HI0.out) hb); have n2_ := Aside0.mk (KeepBut.trans (zK HK.out) (KeepBut.of_below hb g none) (.inl rfl)); have n3_ := Aside0.mk (below_step (zB1 HB.out (IsS67.ge HI0.out)) hb); clear HI0; clear HK; clear HB; have HO313 := n0_; have HI0 := n1_; have HK := n2_; have HB := n3_; clear n0_ n1_ n2_ n3_; (try clear hb); (try clear hb2); (try clear hk); (try clear hi); (try clear ho0); obtain ⟨Ao10, co10, eo10⟩ := Kd.S_slice HO313.out; subst eo10) | ((with_reducible refine gate_callee (f := 36) rfl ?_); refine zG (some 16) Tryz.func36 #[.pointer (some ⟨g, 0, none⟩), .int .i64 (t311.length : Int)] ?_; (with_reducible refine (spec_l1Below.calls g s0_0 t309 t310 (t311.length : Int) t314 t315 t316 w0 _ ?side1 ?side2 A5.out).mono ?_); (case side1 => exact zI67 HI0.out); (case side2 => exact zB1 HB.out (IsS67.ge HI0.out)); rintro e w11 ⟨rfl, hi, hb, hk⟩; refine ⟨_, rfl, ?_⟩; have n0_ := Aside0.mk (Kd.S_mono (Kd.S_keep (IsS67.apartS (show IsS67 w0 _ g s0_0 t309 t310 from zI67 HI0.out) (zS HO313.out) (by decide)) hk (fun _ h => h.2)) (fun _ h => h.1)); have n1_ := Aside0.mk (KeepBut.trans (zK HK.out) hk (.inl rfl)); have n2_ := Aside0.mk (hb); have n3_ := Aside0.mk (hi); clear HO313; clear HK; clear HB; clear HI0; have HO313 := n0_; have HK := n1_; have HB := n2_; have HI0 := n3_; clear n0_ n1_ n2_ n3_; (try clear hb); (try clear hb2); (try clear hk); (try clear hi); have p317 : 0 ≤ (t314 : Int) := zd; have q317 : t314 < (t311.length : Int) := zd; obtain ⟨ad317, A317_0, c317_0, e317, hx317_0, hl317_0, hi317_0⟩ := at_L2 (Kd.S_reads' HO313.out).2.2 t314 p317 q317; cases e317; obtain ⟨ce317, hce317, hMe317, hcc317⟩ := Kd.S_get HO313.out [] t314 p317 (by first | exact q317 | exact zd | (have e_ := (Kd.S_reads' HO313.out).1; omega)); obtain ⟨ve317_0, rfl, ge317_0⟩ := hMe317; have hv317_0 := hcc317 0 _ rfl; rw [Nat.add_zero, show ((Kd.slice 3 (Kd.int .i64))).sz = 1 from rfl, Nat.mul_one] at hv317_0; replace hv317_0 := Option.some.inj (hv317_0.symm.trans hx317_0); rw [hv317_0] at ge317_0; have HL317_0 := Aside0.mk (show Kd.R (Kd.int .i64) 3 _ _ _ _ (rd_L2 t311 t314) from ge317_0); clear hv317_0 ge317_0; clear hcc317 hce317; have HR317_0 := Aside0.mk hi317_0; have HC317_0 := Aside0.mk hl317_0; clear hi317_0 hl317_0; replace p317 := eq_true p317; replace q317 := eq_true q317))
   go_ret
   exact ⟨_, zr, zR (Kd.R_mono HL317_0.out (fun _ hk => trivial)), zI67 HI0.out, zB1 HB.out (IsS67.ge HI0.out), zK HK.out⟩
  ·rw [if_neg c7] at H
   exact absurd H (by simp)
 ·rw [if_neg c6] at H
  exact absurd H (by simp)

def spec_l4Draw.l0 : Nat → Int → Int → List Int → Int → Int → List Int → List Int → Option (List Int × List Int × Int × Int)
 | 0, _, _, _, _, _, _, _ => none
 | k + 1, x6, x7, x1000, x1001, x1002, x325000, x325001 => if x7 < (x325000.length : Int) then (if 0 ≤ x7 then ((spec_l1Below.f x1000 x1001 x1002 (wrap64 ((rd x325000 x7) + 1))).bind fun bt326 => ((spec_l1Min.f x6 bt326.1).bind fun t329 => (if t329 = 0 then (some (x325000, x325001, bt326.2.1, bt326.2.2)) else ((spec_l1Once.f x1000 bt326.2.1 bt326.2.2 3).bind fun bt330 => (if bt330.1 = true then (some (x325000, x325001, bt330.2.1, bt330.2.2)) else (if x325001.length < 17592186044416 then (spec_l4Draw.l0 k t329 (wrap64 (x7 + 1)) x1000 bt330.2.1 bt330.2.2 x325000 (x325001 ++ [t329])) else (none))))))) else (none)) else (some (x325000, x325001, x1001, x1002))
def spec_l4Draw.f (k : Nat) (s0_0 : List Int) (s0_1 : Int) (s0_2 : Int) (a1 : Int) : Option (List Int × List Int × Int × Int) := (spec_l2Draw.f k s0_0 s0_1 s0_2 a1).bind fun bt319 => (spec_l4Draw.l0 k a1 0 s0_0 bt319.2.1 bt319.2.2 bt319.1 ([] : List Int))
set_option maxHeartbeats 8000000 in
set_option maxRecDepth 100000 in
theorem spec_l4Draw.calls (k : Nat) (g : Nat) (s0_0 : List Int) (s0_1 : Int) (s0_2 : Int) (a1 : Int) (r1 : List Int) (r2 : List Int) (r3 : Int) (r4 : Int) (w0 w : World) (hI : IsS67 w0 w g s0_0 s0_1 s0_2) (hB : Below w0.heap.size w0 w) (h : spec_l4Draw.f k s0_0 s0_1 s0_2 a1 = some (r1, r2, r3, r4)) :
  Calls Tryz.prog 71 #[.pointer (some ⟨g, 0, none⟩), .int .i64 a1] w fun e w' => ∃ v0_ v1_ : Value, e = .returned (.agg #[v0_, v1_]) ∧ Kd.R (Kd.int .i64) 3 w' w.heap.size (fun k_ => some k_ ≠ (v1_ : Value).ownBlock) v0_ r1 ∧ Kd.R (Kd.int .i64) 3 w' w.heap.size (fun k_ => some k_ ≠ (v0_ : Value).ownBlock) v1_ r2 ∧ IsS67 w0 w' g s0_0 r3 r4 ∧ Below w0.heap.size w0 w' ∧ KeepBut w w' g none := by
 have hu74 := Tryz.underlying74
 have HI0 := Aside0.mk hI
 have HK := Aside0.mk (KeepBut.refl w g none)
 have HL := Aside0.mk hB.size
 clear hI
 have HW0 := Aside0.mk hB.size
 have HB := Aside0.mk hB
 clear hB
 have H : ((spec_l2Draw.f k s0_0 s0_1 s0_2 a1).bind fun bt319 => (spec_l4Draw.l0 k a1 0 s0_0 bt319.2.1 bt319.2.2 bt319.1 ([] : List Int))) = some (r1, r2, r3, r4) := h
 clear h
 replace H := Option.bind_eq_some_iff.mp H
 obtain ⟨⟨t319, t322, t323⟩, A30, H⟩ := H
 replace H : (spec_l4Draw.l0 k a1 0 s0_0 t322 t323 t319 ([] : List Int)) = some (r1, r2, r3, r4) := H
 have A3 := Aside0.mk A30
 clear A30
 have H' := Aside0.mk H
 clear H
 go_enter Tryz.func71, Tryz.ntmps71
 go_wp2_with (first | ((with_reducible refine gate_dst (N := 4) rfl ?_); refine zX (N := 4) (cs := #[.slice none 0 0, .slice none 0 0]) (t := 74) ?_; intro gb318 hg w4 hbox hb; have n0_ := Aside0.mk (IsS67.below (zI67 HI0.out) hb); have n1_ := Aside0.mk (KeepBut.trans (zK HK.out) (KeepBut.of_below hb g none) (.inl rfl)); have n2_ := Aside0.mk (below_step (zB1 HB.out (IsS67.ge HI0.out)) hb); have n3_ := Aside0.mk (hbox); have n4_ := Aside0.mk ((by rw [hg]; exact (keep_size (w := w) (g := g) (row := none) (zK HK.out)) : w.heap.size ≤ gb318)); have n5_ := Aside0.mk ((Nat.le_trans HW0.out (by rw [hg]; exact (keep_size (w := w) (g := g) (row := none) (zK HK.out)) : w.heap.size ≤ gb318) : w0.heap.size ≤ gb318)); have n6_ := Aside0.mk ((by rw [hg]; exact Nat.ne_of_lt (IsS67.lt (show IsS67 w0 _ g s0_0 s0_1 s0_2 from zI67 HI0.out)) : g ≠ gb318)); have n7_ := Aside0.mk ((by rw [hg]; exact Nat.ne_of_gt (IsS67.lt (show IsS67 w0 _ g s0_0 s0_1 s0_2 from zI67 HI0.out)) : gb318 ≠ g)); clear HI0; clear HK; clear HB; have HI0 := n0_; have HK := n1_; have HB := n2_; have BK318 := n3_; have GW318 := n4_; have GE318 := n5_; have NB0_318 := n6_; have NB318_0 := n7_; clear n0_ n1_ n2_ n3_ n4_ n5_ n6_ n7_; clear hb hbox hg) | ((with_reducible refine gate_callee (f := 55) rfl ?_); refine zG (some 10) Tryz.func55 #[.pointer (some ⟨g, 0, none⟩), .int .i64 a1] ?_; (with_reducible refine (spec_l2Draw.calls k g s0_0 s0_1 s0_2 a1 t319 t322 t323 w0 _ ?side1 ?side2 A3.out).mono ?_); (case side1 => exact zI671 HI0.out NB0_318.out); (case side2 => exact zB2 HB.out (IsS67.ge HI0.out) GE318.out); rintro e w5 ⟨v320, rfl, ho0, hi, hb, hk⟩; refine ⟨_, rfl, ?_⟩; have n0_ := Aside0.mk (KeepBut.blk hk (g' := gb318) (o := .cells #[.slice none 0 0, .slice none 0 0] 74 (0, 0)) (zH BK318.out) NB318_0.out (by simp)); have n1_ := Aside0.mk (Kd.R_lower ho0 (keep_size (w := w) (g := g) (row := none) (zK1 HK.out GW318.out))); have n2_ := Aside0.mk (KeepBut.trans (zK1 HK.out GW318.out) hk (.inl rfl)); have n3_ := Aside0.mk (hb); have n4_ := Aside0.mk (hi); clear BK318; clear HK; clear HB; clear HI0; have BK318 := n0_; have HO321 := n1_; have HK := n2_; have HB := n3_; have HI0 := n4_; clear n0_ n1_ n2_ n3_ n4_; (try clear hb); (try clear hb2); (try clear hk); (try clear hi); (try clear ho0); obtain ⟨Ao6, co6, eo6⟩ := Kd.R_slice HO321.out; subst eo6) | ((with_reducible refine gate_dst (N := 5) rfl ?_); refine zX (N := 5) (cs := #[.slice none 0 0, .slice none 0 0]) (t := 74) ?_; intro gb324 hg w7 hbox hb; have n0_ := Aside0.mk (Kd.R_below (zR HO321.out) hb); have n1_ := Aside0.mk (IsS67.below (zI671 HI0.out NB0_318.out) hb); have n2_ := Aside0.mk (blk_below (g := gb318) (o := .cells #[.slice none 0 0, .slice none 0 0] 74 (0, 0)) (zH BK318.out) hb); have n3_ := Aside0.mk (KeepBut.trans (zK1 HK.out GW318.out) (KeepBut.of_below hb g none) (.inl rfl)); have n4_ := Aside0.mk (below_step (zB2 HB.out (IsS67.ge HI0.out) GE318.out) hb); have n5_ := Aside0.mk (hbox); have n6_ := Aside0.mk ((by rw [hg]; exact (keep_size (w := w) (g := g) (row := none) (zK1 HK.out GW318.out)) : w.heap.size ≤ gb324)); have n7_ := Aside0.mk ((Nat.le_trans HW0.out (by rw [hg]; exact (keep_size (w := w) (g := g) (row := none) (zK1 HK.out GW318.out)) : w.heap.size ≤ gb324) : w0.heap.size ≤ gb324)); have n8_ := Aside0.mk ((by rw [hg]; exact Nat.ne_of_lt (blk_lt (g := gb318) (o := .cells #[.slice none 0 0, .slice none 0 0] 74 (0, 0)) (zH BK318.out)) : gb318 ≠ gb324)); have n9_ := Aside0.mk ((by rw [hg]; exact Nat.ne_of_gt (blk_lt (g := gb318) (o := .cells #[.slice none 0 0, .slice none 0 0] 74 (0, 0)) (zH BK318.out)) : gb324 ≠ gb318)); have n10_ := Aside0.mk ((by rw [hg]; exact Nat.ne_of_lt (IsS67.lt (show IsS67 w0 _ g s0_0 t322 t323 from zI671 HI0.out NB0_318.out)) : g ≠ gb324)); have n11_ := Aside0.mk ((by rw [hg]; exact Nat.ne_of_gt (IsS67.lt (show IsS67 w0 _ g s0_0 t322 t323 from zI671 HI0.out NB0_318.out)) : gb324 ≠ g)); clear HO321; clear HI0; clear BK318; clear HK; clear HB; have HO321 := n0_; have HI0 := n1_; have BK318 := n2_; have HK := n3_; have HB := n4_; have BK324 := n5_; have GW324 := n6_; have GE324 := n7_; have NB318_324 := n8_; have NB324_318 := n9_; have NB0_324 := n10_; have NB324_0 := n11_; clear n0_ n1_ n2_ n3_ n4_ n5_ n6_ n7_ n8_ n9_ n10_ n11_; clear hb hbox hg; have hnb8 := NB324_318.out; have hnc8 := NB318_324.out; have hnb9 := NB324_0.out; have hnc9 := NB0_324.out; have hcz10_0 : w7.cell? ⟨gb324, 0, none⟩ = some (.slice none 0 0) := (blk_cell BK324.out 0).trans rfl; have hcz10_1 : w7.cell? ⟨gb324, 1, none⟩ = some (.slice none 0 0) := (blk_cell BK324.out 1).trans rfl; have hfz10_0 := blk_frozen BK324.out 0; have hfz10_1 := blk_frozen BK324.out 1))
 go_loopg [6, 7] k (fun kq v6 v7 w' => ∃ (x6_1 : Int) (x7_1 : Int) (x1001_1 : Int) (x1002_1 : Int) (x325001_1 : List Int) (u325001 : Value), v6 = .int .i64 x6_1 ∧ v7 = .int .i64 x7_1 ∧ Aside0 (spec_l4Draw.l0 kq x6_1 x7_1 s0_0 x1001_1 x1002_1 t319 x325001_1 = some (r1, r2, r3, r4)) ∧ Aside0 (kq ≤ k) ∧ Aside0 (Kd.R (Kd.int .i64) 3 w' w.heap.size (fun k_ => some k_ ≠ (u325001 : Value).ownBlock) (.slice Ao6 t319.length co6) t319) ∧ Aside0 (Kd.R (Kd.int .i64) 3 w' w.heap.size (fun k_ => some k_ ≠ ((.slice Ao6 t319.length co6) : Value).ownBlock) u325001 x325001_1) ∧ Aside0 (w'.heap[gb318]? = some (.cells #[(.slice none 0 0), (.slice none 0 0)] 74 (0, 0))) ∧ Aside0 (w'.heap[gb324]? = some (.cells #[(.slice Ao6 t319.length co6), u325001] 74 (0, 0))) ∧ Aside0 (IsS67 w0 w' g s0_0 x1001_1 x1002_1) ∧ Aside0 (KeepBut w w' g none) ∧ Aside0 (Below w0.heap.size w0 w'))
 case atStart => exact ⟨(a1), (0), (t322), (t323), (([] : List Int)), (.slice none 0 0), zs, zs, H', ⟨Nat.le_refl _⟩, ⟨zR (Kd.R_mono (Kd.R_far (p := ⟨gb324, 1, none⟩) (Kd.R_far (p := ⟨gb324, 0, none⟩) (Kd.R_types HO321.out BK324.out (by decide)) (fun _ hk => hk.2) (.slice Ao6 t319.length co6)) (fun _ hk => hk.2) (.slice none 0 0)) (fun _ hk => (by simp [Value.ownBlock])))⟩, ⟨by first | exact Kd.R_nil _ _ _ _ _ | exact Kd.N_nil _ _ _ _ _ | exact Kd.V_nil _ _ _ _ _ | exact Kd.Q_nil _ _ _ _ _ | exact Kd.S_nil _ _ _ _ _⟩, ⟨by (with_reducible repeat (first | refine blk_drewN ?_ _ | refine blk_drew ?_ | refine blk_alloc ?_ _)); refine blk_far ?_ NB318_324.out _; (with_reducible repeat (first | refine blk_drewN ?_ _ | refine blk_drew ?_ | refine blk_alloc ?_ _)); refine blk_far ?_ NB318_324.out _; (with_reducible repeat (first | refine blk_drewN ?_ _ | refine blk_drew ?_ | refine blk_alloc ?_ _)); exact BK318.out⟩, ⟨by (with_reducible repeat (first | refine blk_drewN ?_ _ | refine blk_drew ?_ | refine blk_alloc ?_ _)); refine blk_put (cs := #[.slice Ao6 t319.length co6, .slice none 0 0]) ?_ 1 _ rfl; (with_reducible repeat (first | refine blk_drewN ?_ _ | refine blk_drew ?_ | refine blk_alloc ?_ _)); refine blk_put (cs := #[.slice none 0 0, .slice none 0 0]) ?_ 0 _ rfl; (with_reducible repeat (first | refine blk_drewN ?_ _ | refine blk_drew ?_ | refine blk_alloc ?_ _)); exact BK324.out⟩, ⟨zI672 HI0.out NB0_318.out NB0_324.out⟩, ⟨zK2 HK.out GW318.out GW324.out⟩, ⟨zB3 HB.out (IsS67.ge HI0.out) GE318.out GE324.out⟩⟩
 case round =>
  clear H'
  try clear p2
  try clear c5
  try clear c7
  try clear c8
  try clear c9
  try clear hcz10_0
  try clear hcz10_1
  try clear hfz10_0
  try clear hfz10_1
  obtain ⟨x6_1, x7_1, x1001_1, x1002_1, x325001_1, u325001, rfl, rfl, HA, HK1, HO_325000, HO_325001, BK318, BK324, HI0, HK, HB⟩ := hrel
  cases gk with
  | zero => exact absurd HA.out (by simp [spec_l4Draw.l0])
  | succ k1 =>
   have H := HA.out
   clear HA
   simp only [spec_l4Draw.l0] at H
   by_cases c11 : x7_1 < (t319.length : Int)
   ·rw [if_pos c11] at H
    have c11b0 : decide (x7_1 < (t319.length : Int)) = true := decide_eq_true c11
    clear c11
    by_cases c12 : 0 ≤ x7_1
    ·rw [if_pos c12] at H
     have c12b0 : decide (0 ≤ x7_1) = true := decide_eq_true c12
     clear c12
     replace H := Option.bind_eq_some_iff.mp H
     obtain ⟨⟨t326, t327, t328⟩, A130, H⟩ := H
     replace H : ((spec_l1Min.f x6_1 t326).bind fun t329 => (if t329 = 0 then (some (t319, x325001_1, t327, t328)) else ((spec_l1Once.f s0_0 t327 t328 3).bind fun bt330 => (if bt330.1 = true then (some (t319, x325001_1, bt330.2.1, bt330.2.2)) else (if x325001_1.length < 17592186044416 then (spec_l4Draw.l0 k1 t329 (wrap64 (x7_1 + 1)) s0_0 bt330.2.1 bt330.2.2 t319 (x325001_1 ++ [t329])) else (none)))))) = some (r1, r2, r3, r4) := H
     have A13 := Aside0.mk A130
     clear A130
     replace H := Option.bind_eq_some_iff.mp H
     obtain ⟨t329, A140, H⟩ := H
     replace H : (if t329 = 0 then (some (t319, x325001_1, t327, t328)) else ((spec_l1Once.f s0_0 t327 t328 3).bind fun bt330 => (if bt330.1 = true then (some (t319, x325001_1, bt330.2.1, bt330.2.2)) else (if x325001_1.length < 17592186044416 then (spec_l4Draw.l0 k1 t329 (wrap64 (x7_1 + 1)) s0_0 bt330.2.1 bt330.2.2 t319 (x325001_1 ++ [t329])) else (none))))) = some (r1, r2, r3, r4) := H
     have A14 := Aside0.mk A140
     clear A140
     by_cases c15 : t329 = 0
     ·rw [if_pos c15] at H
      have c15b0 : (t329 == 0) = true := beq_iff_eq.mpr c15
      have c15b1 : (t329 != 0) = false := bne_eq_false_iff_eq.mpr c15
      clear c15
      simp only [Option.some.injEq, Prod.mk.injEq] at H
      obtain ⟨rfl, rfl, rfl, rfl⟩ := H
      have hnb16 := NB324_318.out
      have hnc16 := NB318_324.out
      have hnb17 := NB324_0.out
      have hnc17 := NB0_324.out
      have hcz18_0 : wr.cell? ⟨gb324, 0, none⟩ = some (.slice Ao6 t319.length co6) := (blk_cell BK324.out 0).trans rfl
      have hcz18_1 : wr.cell? ⟨gb324, 1, none⟩ = some (u325001) := (blk_cell BK324.out 1).trans rfl
      have hfz18_0 := blk_frozen BK324.out 0
      have hfz18_1 := blk_frozen BK324.out 1
      have p325 : 0 ≤ (x7_1 : Int) := zd
      have q325 : x7_1 < (t319.length : Int) := zd
      obtain ⟨ad325, e325, hx325_0⟩ := Kd.at_int (Kd.R_reads' HO_325000.out).2.2 x7_1 p325 q325
      cases e325
      replace p325 := eq_true p325
      replace q325 := eq_true q325
      go_wp2_with (first | ((with_reducible refine gate_callee (f := 36) rfl ?_); refine zG (some 28) Tryz.func36 #[.pointer (some ⟨g, 0, none⟩), .int .i64 (wrap64 ((rd t319 x7_1) + 1))] ?_; (with_reducible refine (spec_l1Below.calls g s0_0 x1001_1 x1002_1 (wrap64 ((rd t319 x7_1) + 1)) t326 t327 t328 w0 _ ?side1 ?side2 A13.out).mono ?_); (case side1 => exact zI672 HI0.out NB0_318.out NB0_324.out); (case side2 => exact zB3 HB.out (IsS67.ge HI0.out) GE318.out GE324.out); rintro e w19 ⟨rfl, hi, hb, hk⟩; refine ⟨_, rfl, ?_⟩; have n0_ := Aside0.mk (Kd.R_mono (Kd.R_keep (IsS67.apart (show IsS67 w0 _ g s0_0 x1001_1 x1002_1 from zI672 HI0.out NB0_318.out NB0_324.out) (zR HO_325000.out) (by decide)) hk (fun _ h => h.2)) (fun _ h => h.1)); have n1_ := Aside0.mk (Kd.R_mono (Kd.R_keep (IsS67.apart (show IsS67 w0 _ g s0_0 x1001_1 x1002_1 from zI672 HI0.out NB0_318.out NB0_324.out) (zR HO_325001.out) (by decide)) hk (fun _ h => h.2)) (fun _ h => h.1)); have n2_ := Aside0.mk (KeepBut.blk hk (g' := gb318) (o := .cells #[.slice none 0 0, .slice none 0 0] 74 (0, 0)) (zH BK318.out) NB318_0.out (by simp)); have n3_ := Aside0.mk (KeepBut.blk hk (g' := gb324) (o := .cells #[.slice (some ad325) t319.length co6, u325001] 74 (0, 0)) (zH BK324.out) NB324_0.out (by simp)); have n4_ := Aside0.mk (KeepBut.trans (zK2 HK.out GW318.out GW324.out) hk (.inl rfl)); have n5_ := Aside0.mk (hb); have n6_ := Aside0.mk (hi); clear HO_325000; clear HO_325001; clear BK318; clear BK324; clear HK; clear HB; clear HI0; have HO_325000 := n0_; have HO_325001 := n1_; have BK318 := n2_; have BK324 := n3_; have HK := n4_; have HB := n5_; have HI0 := n6_; clear n0_ n1_ n2_ n3_ n4_ n5_ n6_; (try clear hb); (try clear hb2); (try clear hk); (try clear hi)) | ((with_reducible refine gate_callee (f := 80) rfl ?_); refine zG (some 29) Tryz.func80 #[.int .i64 x6_1, .int .i64 t326] ?_; (with_reducible refine (spec_l1Min.calls x6_1 t326 t329 _ A14.out).mono ?_); rintro e w' ⟨rfl, ⟨nd, rfl⟩⟩; refine ⟨_, rfl, ?_⟩; (try (rw [drewN_self w19]; generalize hq_ : World.drewN w19 _ = w19; have n0_ : Aside0 (Kd.R (Kd.int .i64) 3 w19 w.heap.size (fun k_ => some k_ ≠ (u325001 : Value).ownBlock) (.slice (some ad325) t319.length co6) t319) := ⟨by rw [← hq_]; exact (zR HO_325000.out)⟩; have n1_ : Aside0 (Kd.R (Kd.int .i64) 3 w19 w.heap.size (fun k_ => some k_ ≠ (.slice (some ad325) t319.length co6 : Value).ownBlock) u325001 x325001_1) := ⟨by rw [← hq_]; exact (zR HO_325001.out)⟩; have n2_ : Aside0 (w19.heap[gb318]? = some (.cells #[.slice none 0 0, .slice none 0 0] 74 (0, 0))) := ⟨by rw [← hq_]; exact (zH BK318.out)⟩; have n3_ : Aside0 (w19.heap[gb324]? = some (.cells #[.slice (some ad325) t319.length co6, u325001] 74 (0, 0))) := ⟨by rw [← hq_]; exact (zH BK324.out)⟩; have n4_ : Aside0 (IsS67 w0 w19 g s0_0 t327 t328) := ⟨by rw [← hq_]; exact (zI672 HI0.out NB0_318.out NB0_324.out)⟩; have n5_ : Aside0 (KeepBut w w19 g none) := ⟨by rw [← hq_]; exact (zK2 HK.out GW318.out GW324.out)⟩; have n6_ : Aside0 (Below w0.heap.size w0 w19) := ⟨by rw [← hq_]; exact (zB3 HB.out (IsS67.ge HI0.out) GE318.out GE324.out)⟩; clear HO_325000 HO_325001 BK318 BK324 HI0 HK HB hq_; have HO_325000 := n0_; have HO_325001 := n1_; have BK318 := n2_; have BK324 := n3_; have HI0 := n4_; have HK := n5_; have HB := n6_; clear n0_ n1_ n2_ n3_ n4_ n5_ n6_)); have hcz20_0 : w19.cell? ⟨gb324, 0, none⟩ = some (.slice (some ad325) t319.length co6) := (blk_cell BK324.out 0).trans rfl; have hcz20_1 : w19.cell? ⟨gb324, 1, none⟩ = some (u325001) := (blk_cell BK324.out 1).trans rfl; have hfz20_0 := blk_frozen BK324.out 0; have hfz20_1 := blk_frozen BK324.out 1; have hnb21 := NB318_0.out; have hnc21 := NB0_318.out; have hcz22_0 : w19.cell? ⟨gb318, 0, none⟩ = some (.slice none 0 0) := (blk_cell BK318.out 0).trans rfl; have hcz22_1 : w19.cell? ⟨gb318, 1, none⟩ = some (.slice none 0 0) := (blk_cell BK318.out 1).trans rfl; have hfz22_0 := blk_frozen BK318.out 0; have hfz22_1 := blk_frozen BK318.out 1; obtain ⟨Ao23, co23, eo23⟩ := Kd.R_slice HO_325001.out; subst eo23))
      refine bodyPost_ret (results_cell_row rfl _ _ gb318 74 #[.slice (some ad325) t319.length co6, .slice Ao23 x325001_1.length co23] (0, 0) _ rfl (by (with_reducible repeat (first | refine blk_drewN ?_ _ | refine blk_drew ?_ | refine blk_alloc ?_ _)); refine blk_put (cs := #[.slice (some ad325) t319.length co6, .slice none 0 0]) ?_ 1 _ rfl; (with_reducible repeat (first | refine blk_drewN ?_ _ | refine blk_drew ?_ | refine blk_alloc ?_ _)); refine blk_put (cs := #[.slice none 0 0, .slice none 0 0]) ?_ 0 _ rfl; (with_reducible repeat (first | refine blk_drewN ?_ _ | refine blk_drew ?_ | refine blk_alloc ?_ _)); exact BK318.out) Tryz.underlying74 rfl (by kernel_rfl)) rfl ?_
      exact ⟨_, _, zr, zR (Kd.R_mono (Kd.R_far (p := ⟨gb318, 1, none⟩) (Kd.R_far (p := ⟨gb318, 0, none⟩) (Kd.R_types HO_325000.out BK318.out (by decide)) (fun _ hk => hk.2) (.slice (some ad325) t319.length co6)) (fun _ hk => hk.2) (.slice Ao23 x325001_1.length co23)) (fun _ hk => hk.1)), zR (Kd.R_mono (Kd.R_far (p := ⟨gb318, 1, none⟩) (Kd.R_far (p := ⟨gb318, 0, none⟩) (Kd.R_types HO_325001.out BK318.out (by decide)) (fun _ hk => hk.2) (.slice (some ad325) t319.length co6)) (fun _ hk => hk.2) (.slice Ao23 x325001_1.length co23)) (fun _ hk => hk.1)), zI672 HI0.out NB0_318.out NB0_324.out, zB3 HB.out (IsS67.ge HI0.out) GE318.out GE324.out, zK2 HK.out GW318.out GW324.out⟩
     ·rw [if_neg c15] at H
      have c15b0 : (t329 == 0) = false := beq_eq_false_iff_ne.mpr c15
      have c15b1 : (t329 != 0) = true := bne_iff_ne.mpr c15
      replace H := Option.bind_eq_some_iff.mp H
      obtain ⟨⟨t330, t331, t332⟩, A240, H⟩ := H
      replace H : (if t330 = true then (some (t319, x325001_1, t331, t332)) else (if x325001_1.length < 17592186044416 then (spec_l4Draw.l0 k1 t329 (wrap64 (x7_1 + 1)) s0_0 t331 t332 t319 (x325001_1 ++ [t329])) else (none))) = some (r1, r2, r3, r4) := H
      have A24 := Aside0.mk A240
      clear A240
      by_cases c25 : t330 = true
      ·subst c25
       have H1 : (some (t319, x325001_1, t331, t332)) = some (r1, r2, r3, r4) := by rw [if_pos rfl] at H; exact H
       clear H
       have H := H1
       clear H1
       simp only [Option.some.injEq, Prod.mk.injEq] at H
       obtain ⟨rfl, rfl, rfl, rfl⟩ := H
       have hnb26 := NB324_318.out
       have hnc26 := NB318_324.out
       have hnb27 := NB324_0.out
       have hnc27 := NB0_324.out
       have hcz28_0 : wr.cell? ⟨gb324, 0, none⟩ = some (.slice Ao6 t319.length co6) := (blk_cell BK324.out 0).trans rfl
       have hcz28_1 : wr.cell? ⟨gb324, 1, none⟩ = some (u325001) := (blk_cell BK324.out 1).trans rfl
       have hfz28_0 := blk_frozen BK324.out 0
       have hfz28_1 := blk_frozen BK324.out 1
       have p325 : 0 ≤ (x7_1 : Int) := zd
       have q325 : x7_1 < (t319.length : Int) := zd
       obtain ⟨ad325, e325, hx325_0⟩ := Kd.at_int (Kd.R_reads' HO_325000.out).2.2 x7_1 p325 q325
       cases e325
       replace p325 := eq_true p325
       replace q325 := eq_true q325
       go_wp2_with (first | ((with_reducible refine gate_callee (f := 36) rfl ?_); refine zG (some 28) Tryz.func36 #[.pointer (some ⟨g, 0, none⟩), .int .i64 (wrap64 ((rd t319 x7_1) + 1))] ?_; (with_reducible refine (spec_l1Below.calls g s0_0 x1001_1 x1002_1 (wrap64 ((rd t319 x7_1) + 1)) t326 t327 t328 w0 _ ?side1 ?side2 A13.out).mono ?_); (case side1 => exact zI672 HI0.out NB0_318.out NB0_324.out); (case side2 => exact zB3 HB.out (IsS67.ge HI0.out) GE318.out GE324.out); rintro e w29 ⟨rfl, hi, hb, hk⟩; refine ⟨_, rfl, ?_⟩; have n0_ := Aside0.mk (Kd.R_mono (Kd.R_keep (IsS67.apart (show IsS67 w0 _ g s0_0 x1001_1 x1002_1 from zI672 HI0.out NB0_318.out NB0_324.out) (zR HO_325000.out) (by decide)) hk (fun _ h => h.2)) (fun _ h => h.1)); have n1_ := Aside0.mk (Kd.R_mono (Kd.R_keep (IsS67.apart (show IsS67 w0 _ g s0_0 x1001_1 x1002_1 from zI672 HI0.out NB0_318.out NB0_324.out) (zR HO_325001.out) (by decide)) hk (fun _ h => h.2)) (fun _ h => h.1)); have n2_ := Aside0.mk (KeepBut.blk hk (g' := gb318) (o := .cells #[.slice none 0 0, .slice none 0 0] 74 (0, 0)) (zH BK318.out) NB318_0.out (by simp)); have n3_ := Aside0.mk (KeepBut.blk hk (g' := gb324) (o := .cells #[.slice (some ad325) t319.length co6, u325001] 74 (0, 0)) (zH BK324.out) NB324_0.out (by simp)); have n4_ := Aside0.mk (KeepBut.trans (zK2 HK.out GW318.out GW324.out) hk (.inl rfl)); have n5_ := Aside0.mk (hb); have n6_ := Aside0.mk (hi); clear HO_325000; clear HO_325001; clear BK318; clear BK324; clear HK; clear HB; clear HI0; have HO_325000 := n0_; have HO_325001 := n1_; have BK318 := n2_; have BK324 := n3_; have HK := n4_; have HB := n5_; have HI0 := n6_; clear n0_ n1_ n2_ n3_ n4_ n5_ n6_; (try clear hb); (try clear hb2); (try clear hk); (try clear hi)) | ((with_reducible refine gate_callee (f := 80) rfl ?_); refine zG (some 29) Tryz.func80 #[.int .i64 x6_1, .int .i64 t326] ?_; (with_reducible refine (spec_l1Min.calls x6_1 t326 t329 _ A14.out).mono ?_); rintro e w' ⟨rfl, ⟨nd, rfl⟩⟩; refine ⟨_, rfl, ?_⟩; (try (rw [drewN_self w29]; generalize hq_ : World.drewN w29 _ = w29; have n0_ : Aside0 (Kd.R (Kd.int .i64) 3 w29 w.heap.size (fun k_ => some k_ ≠ (u325001 : Value).ownBlock) (.slice (some ad325) t319.length co6) t319) := ⟨by rw [← hq_]; exact (zR HO_325000.out)⟩; have n1_ : Aside0 (Kd.R (Kd.int .i64) 3 w29 w.heap.size (fun k_ => some k_ ≠ (.slice (some ad325) t319.length co6 : Value).ownBlock) u325001 x325001_1) := ⟨by rw [← hq_]; exact (zR HO_325001.out)⟩; have n2_ : Aside0 (w29.heap[gb318]? = some (.cells #[.slice none 0 0, .slice none 0 0] 74 (0, 0))) := ⟨by rw [← hq_]; exact (zH BK318.out)⟩; have n3_ : Aside0 (w29.heap[gb324]? = some (.cells #[.slice (some ad325) t319.length co6, u325001] 74 (0, 0))) := ⟨by rw [← hq_]; exact (zH BK324.out)⟩; have n4_ : Aside0 (IsS67 w0 w29 g s0_0 t327 t328) := ⟨by rw [← hq_]; exact (zI672 HI0.out NB0_318.out NB0_324.out)⟩; have n5_ : Aside0 (KeepBut w w29 g none) := ⟨by rw [← hq_]; exact (zK2 HK.out GW318.out GW324.out)⟩; have n6_ : Aside0 (Below w0.heap.size w0 w29) := ⟨by rw [← hq_]; exact (zB3 HB.out (IsS67.ge HI0.out) GE318.out GE324.out)⟩; clear HO_325000 HO_325001 BK318 BK324 HI0 HK HB hq_; have HO_325000 := n0_; have HO_325001 := n1_; have BK318 := n2_; have BK324 := n3_; have HI0 := n4_; have HK := n5_; have HB := n6_; clear n0_ n1_ n2_ n3_ n4_ n5_ n6_))) | (go_at_call 34; (with_reducible refine (spec_l1Once.calls g s0_0 t327 t328 3 true t331 t332 w0 _ ?side1 ?side2 A24.out).mono ?_); (case side1 => exact zI672 HI0.out NB0_318.out NB0_324.out); (case side2 => exact zB3 HB.out (IsS67.ge HI0.out) GE318.out GE324.out); rintro e w30 ⟨rfl, hi, hb, hk⟩; have n0_ := Aside0.mk (Kd.R_mono (Kd.R_keep (IsS67.apart (show IsS67 w0 _ g s0_0 t327 t328 from zI672 HI0.out NB0_318.out NB0_324.out) (zR HO_325000.out) (by decide)) hk (fun _ h => h.2)) (fun _ h => h.1)); have n1_ := Aside0.mk (Kd.R_mono (Kd.R_keep (IsS67.apart (show IsS67 w0 _ g s0_0 t327 t328 from zI672 HI0.out NB0_318.out NB0_324.out) (zR HO_325001.out) (by decide)) hk (fun _ h => h.2)) (fun _ h => h.1)); have n2_ := Aside0.mk (KeepBut.blk hk (g' := gb318) (o := .cells #[.slice none 0 0, .slice none 0 0] 74 (0, 0)) (zH BK318.out) NB318_0.out (by simp)); have n3_ := Aside0.mk (KeepBut.blk hk (g' := gb324) (o := .cells #[.slice (some ad325) t319.length co6, u325001] 74 (0, 0)) (zH BK324.out) NB324_0.out (by simp)); have n4_ := Aside0.mk (KeepBut.trans (zK2 HK.out GW318.out GW324.out) hk (.inl rfl)); have n5_ := Aside0.mk (hb); have n6_ := Aside0.mk (hi); clear HO_325000; clear HO_325001; clear BK318; clear BK324; clear HK; clear HB; clear HI0; have HO_325000 := n0_; have HO_325001 := n1_; have BK318 := n2_; have BK324 := n3_; have HK := n4_; have HB := n5_; have HI0 := n6_; clear n0_ n1_ n2_ n3_ n4_ n5_ n6_; (try clear hb); (try clear hb2); (try clear hk); (try clear hi); have hcz31_0 : w30.cell? ⟨gb324, 0, none⟩ = some (.slice (some ad325) t319.length co6) := (blk_cell BK324.out 0).trans rfl; have hcz31_1 : w30.cell? ⟨gb324, 1, none⟩ = some (u325001) := (blk_cell BK324.out 1).trans rfl; have hfz31_0 := blk_frozen BK324.out 0; have hfz31_1 := blk_frozen BK324.out 1; have hnb32 := NB318_0.out; have hnc32 := NB0_318.out; have hcz33_0 : w30.cell? ⟨gb318, 0, none⟩ = some (.slice none 0 0) := (blk_cell BK318.out 0).trans rfl; have hcz33_1 : w30.cell? ⟨gb318, 1, none⟩ = some (.slice none 0 0) := (blk_cell BK318.out 1).trans rfl; have hfz33_0 := blk_frozen BK318.out 0; have hfz33_1 := blk_frozen BK318.out 1; obtain ⟨Ao34, co34, eo34⟩ := Kd.R_slice HO_325001.out; subst eo34))
       refine bodyPost_ret (results_cell_row rfl _ _ gb318 74 #[.slice (some ad325) t319.length co6, .slice Ao34 x325001_1.length co34] (0, 0) _ rfl (by (with_reducible repeat (first | refine blk_drewN ?_ _ | refine blk_drew ?_ | refine blk_alloc ?_ _)); refine blk_put (cs := #[.slice (some ad325) t319.length co6, .slice none 0 0]) ?_ 1 _ rfl; (with_reducible repeat (first | refine blk_drewN ?_ _ | refine blk_drew ?_ | refine blk_alloc ?_ _)); refine blk_put (cs := #[.slice none 0 0, .slice none 0 0]) ?_ 0 _ rfl; (with_reducible repeat (first | refine blk_drewN ?_ _ | refine blk_drew ?_ | refine blk_alloc ?_ _)); exact BK318.out) Tryz.underlying74 rfl (by kernel_rfl)) rfl ?_
       exact ⟨_, _, zr, zR (Kd.R_mono (Kd.R_far (p := ⟨gb318, 1, none⟩) (Kd.R_far (p := ⟨gb318, 0, none⟩) (Kd.R_types HO_325000.out BK318.out (by decide)) (fun _ hk => hk.2) (.slice (some ad325) t319.length co6)) (fun _ hk => hk.2) (.slice Ao34 x325001_1.length co34)) (fun _ hk => hk.1)), zR (Kd.R_mono (Kd.R_far (p := ⟨gb318, 1, none⟩) (Kd.R_far (p := ⟨gb318, 0, none⟩) (Kd.R_types HO_325001.out BK318.out (by decide)) (fun _ hk => hk.2) (.slice (some ad325) t319.length co6)) (fun _ hk => hk.2) (.slice Ao34 x325001_1.length co34)) (fun _ hk => hk.1)), zI672 HI0.out NB0_318.out NB0_324.out, zB3 HB.out (IsS67.ge HI0.out) GE318.out GE324.out, zK2 HK.out GW318.out GW324.out⟩
      ·replace c25 := Bool.eq_false_iff.mpr c25
       subst c25
       have H1 : (if x325001_1.length < 17592186044416 then (spec_l4Draw.l0 k1 t329 (wrap64 (x7_1 + 1)) s0_0 t331 t332 t319 (x325001_1 ++ [t329])) else (none)) = some (r1, r2, r3, r4) := by rw [if_neg (show ¬ (false = true) by decide)] at H; exact H
       clear H
       have H := H1
       clear H1
       by_cases c35 : x325001_1.length < 17592186044416
       ·rw [if_pos c35] at H
        have LMc35 := Aside0.mk c35
        clear c35
        obtain ⟨y333, hy333⟩ : ∃ y_ : List Int, y_ = (x325001_1 ++ [t329]) := ⟨_, rfl⟩
        replace H : (spec_l4Draw.l0 k1 t329 (wrap64 (x7_1 + 1)) s0_0 t331 t332 t319 y333) = some (r1, r2, r3, r4) := zY hy333 H
        have Ny333 := Aside0.mk hy333
        clear hy333
        have H' := Aside0.mk H
        clear H
        have hnb36 := NB324_318.out
        have hnc36 := NB318_324.out
        have hnb37 := NB324_0.out
        have hnc37 := NB0_324.out
        have hcz38_0 : wr.cell? ⟨gb324, 0, none⟩ = some (.slice Ao6 t319.length co6) := (blk_cell BK324.out 0).trans rfl
        have hcz38_1 : wr.cell? ⟨gb324, 1, none⟩ = some (u325001) := (blk_cell BK324.out 1).trans rfl
        have hfz38_0 := blk_frozen BK324.out 0
        have hfz38_1 := blk_frozen BK324.out 1
        have p325 : 0 ≤ (x7_1 : Int) := zd
        have q325 : x7_1 < (t319.length : Int) := zd
        obtain ⟨ad325, e325, hx325_0⟩ := Kd.at_int (Kd.R_reads' HO_325000.out).2.2 x7_1 p325 q325
        cases e325
        replace p325 := eq_true p325
        replace q325 := eq_true q325
        go_wp2_with (first | ((with_reducible refine gate_callee (f := 36) rfl ?_); refine zG (some 28) Tryz.func36 #[.pointer (some ⟨g, 0, none⟩), .int .i64 (wrap64 ((rd t319 x7_1) + 1))] ?_; (with_reducible refine (spec_l1Below.calls g s0_0 x1001_1 x1002_1 (wrap64 ((rd t319 x7_1) + 1)) t326 t327 t328 w0 _ ?side1 ?side2 A13.out).mono ?_); (case side1 => exact zI672 HI0.out NB0_318.out NB0_324.out); (case side2 => exact zB3 HB.out (IsS67.ge HI0.out) GE318.out GE324.out); rintro e w39 ⟨rfl, hi, hb, hk⟩; refine ⟨_, rfl, ?_⟩; have n0_ := Aside0.mk (Kd.R_mono (Kd.R_keep (IsS67.apart (show IsS67 w0 _ g s0_0 x1001_1 x1002_1 from zI672 HI0.out NB0_318.out NB0_324.out) (zR HO_325000.out) (by decide)) hk (fun _ h => h.2)) (fun _ h => h.1)); have n1_ := Aside0.mk (Kd.R_mono (Kd.R_keep (IsS67.apart (show IsS67 w0 _ g s0_0 x1001_1 x1002_1 from zI672 HI0.out NB0_318.out NB0_324.out) (zR HO_325001.out) (by decide)) hk (fun _ h => h.2)) (fun _ h => h.1)); have n2_ := Aside0.mk (KeepBut.blk hk (g' := gb318) (o := .cells #[.slice none 0 0, .slice none 0 0] 74 (0, 0)) (zH BK318.out) NB318_0.out (by simp)); have n3_ := Aside0.mk (KeepBut.blk hk (g' := gb324) (o := .cells #[.slice (some ad325) t319.length co6, u325001] 74 (0, 0)) (zH BK324.out) NB324_0.out (by simp)); have n4_ := Aside0.mk (KeepBut.trans (zK2 HK.out GW318.out GW324.out) hk (.inl rfl)); have n5_ := Aside0.mk (hb); have n6_ := Aside0.mk (hi); clear HO_325000; clear HO_325001; clear BK318; clear BK324; clear HK; clear HB; clear HI0; have HO_325000 := n0_; have HO_325001 := n1_; have BK318 := n2_; have BK324 := n3_; have HK := n4_; have HB := n5_; have HI0 := n6_; clear n0_ n1_ n2_ n3_ n4_ n5_ n6_; (try clear hb); (try clear hb2); (try clear hk); (try clear hi)) | ((with_reducible refine gate_callee (f := 80) rfl ?_); refine zG (some 29) Tryz.func80 #[.int .i64 x6_1, .int .i64 t326] ?_; (with_reducible refine (spec_l1Min.calls x6_1 t326 t329 _ A14.out).mono ?_); rintro e w' ⟨rfl, ⟨nd, rfl⟩⟩; refine ⟨_, rfl, ?_⟩; (try (rw [drewN_self w39]; generalize hq_ : World.drewN w39 _ = w39; have n0_ : Aside0 (Kd.R (Kd.int .i64) 3 w39 w.heap.size (fun k_ => some k_ ≠ (u325001 : Value).ownBlock) (.slice (some ad325) t319.length co6) t319) := ⟨by rw [← hq_]; exact (zR HO_325000.out)⟩; have n1_ : Aside0 (Kd.R (Kd.int .i64) 3 w39 w.heap.size (fun k_ => some k_ ≠ (.slice (some ad325) t319.length co6 : Value).ownBlock) u325001 x325001_1) := ⟨by rw [← hq_]; exact (zR HO_325001.out)⟩; have n2_ : Aside0 (w39.heap[gb318]? = some (.cells #[.slice none 0 0, .slice none 0 0] 74 (0, 0))) := ⟨by rw [← hq_]; exact (zH BK318.out)⟩; have n3_ : Aside0 (w39.heap[gb324]? = some (.cells #[.slice (some ad325) t319.length co6, u325001] 74 (0, 0))) := ⟨by rw [← hq_]; exact (zH BK324.out)⟩; have n4_ : Aside0 (IsS67 w0 w39 g s0_0 t327 t328) := ⟨by rw [← hq_]; exact (zI672 HI0.out NB0_318.out NB0_324.out)⟩; have n5_ : Aside0 (KeepBut w w39 g none) := ⟨by rw [← hq_]; exact (zK2 HK.out GW318.out GW324.out)⟩; have n6_ : Aside0 (Below w0.heap.size w0 w39) := ⟨by rw [← hq_]; exact (zB3 HB.out (IsS67.ge HI0.out) GE318.out GE324.out)⟩; clear HO_325000 HO_325001 BK318 BK324 HI0 HK HB hq_; have HO_325000 := n0_; have HO_325001 := n1_; have BK318 := n2_; have BK324 := n3_; have HI0 := n4_; have HK := n5_; have HB := n6_; clear n0_ n1_ n2_ n3_ n4_ n5_ n6_))) | (go_at_call 34; (with_reducible refine (spec_l1Once.calls g s0_0 t327 t328 3 false t331 t332 w0 _ ?side1 ?side2 A24.out).mono ?_); (case side1 => exact zI672 HI0.out NB0_318.out NB0_324.out); (case side2 => exact zB3 HB.out (IsS67.ge HI0.out) GE318.out GE324.out); rintro e w40 ⟨rfl, hi, hb, hk⟩; have n0_ := Aside0.mk (Kd.R_mono (Kd.R_keep (IsS67.apart (show IsS67 w0 _ g s0_0 t327 t328 from zI672 HI0.out NB0_318.out NB0_324.out) (zR HO_325000.out) (by decide)) hk (fun _ h => h.2)) (fun _ h => h.1)); have n1_ := Aside0.mk (Kd.R_mono (Kd.R_keep (IsS67.apart (show IsS67 w0 _ g s0_0 t327 t328 from zI672 HI0.out NB0_318.out NB0_324.out) (zR HO_325001.out) (by decide)) hk (fun _ h => h.2)) (fun _ h => h.1)); have n2_ := Aside0.mk (KeepBut.blk hk (g' := gb318) (o := .cells #[.slice none 0 0, .slice none 0 0] 74 (0, 0)) (zH BK318.out) NB318_0.out (by simp)); have n3_ := Aside0.mk (KeepBut.blk hk (g' := gb324) (o := .cells #[.slice (some ad325) t319.length co6, u325001] 74 (0, 0)) (zH BK324.out) NB324_0.out (by simp)); have n4_ := Aside0.mk (KeepBut.trans (zK2 HK.out GW318.out GW324.out) hk (.inl rfl)); have n5_ := Aside0.mk (hb); have n6_ := Aside0.mk (hi); clear HO_325000; clear HO_325001; clear BK318; clear BK324; clear HK; clear HB; clear HI0; have HO_325000 := n0_; have HO_325001 := n1_; have BK318 := n2_; have BK324 := n3_; have HK := n4_; have HB := n5_; have HI0 := n6_; clear n0_ n1_ n2_ n3_ n4_ n5_ n6_; (try clear hb); (try clear hb2); (try clear hk); (try clear hi); have hcz41_0 : w40.cell? ⟨gb324, 0, none⟩ = some (.slice (some ad325) t319.length co6) := (blk_cell BK324.out 0).trans rfl; have hcz41_1 : w40.cell? ⟨gb324, 1, none⟩ = some (u325001) := (blk_cell BK324.out 1).trans rfl; have hfz41_0 := blk_frozen BK324.out 0; have hfz41_1 := blk_frozen BK324.out 1) | ((with_reducible refine gate_builtin (b := .append) (xs := #[.tmp 38, .tmp 40]) rfl ?_); at_builtin; refine Kd.R_append (Kd.int .i64) w.heap.size rfl (.tmp 38) (.tmp 40) 24 3 (.int .i64 0) 8 rfl Tryz.underlying24 info3 rfl (by decide) (by omega) u325001 x325001_1 t329 [.int .i64 t329] (fun k_ => some k_ ≠ (.slice (some ad325) t319.length co6 : Value).ownBlock) (fun _ => False) rfl rfl ?aP (fun _ hk => hk.elim) ?aF ?aO (Below.refl _ _) ?aS ?aL ?_; (case aP => exact rfl); (case aF => exact (fun k_ hk => Kd.fresh' (Kd.R_lt (zR HO_325000.out)) k_ hk)); (case aO => exact (zR HO_325001.out)); (case aS => exact (keep_size (w := w) (g := g) (row := none) (zK2 HK.out GW318.out GW324.out))); (case aL => have := LMc35.out; omega); intro v334 w42 ho hb hg hat; rw [← Ny333.out] at ho; have n0_ := Aside0.mk (Kd.R_after (ok := (fun _ => True)) (zR (Kd.R_mono HO_325000.out (fun _ hk => ⟨trivial, hk⟩))) hg hat); have n1_ := Aside0.mk (blk_grown (g := gb318) (o := .cells #[.slice none 0 0, .slice none 0 0] 74 (0, 0)) (zH BK318.out) hg (Kd.R_ne HO_325001.out BK318.out (by decide))); have n2_ := Aside0.mk (blk_grown (g := gb324) (o := .cells #[.slice (some ad325) t319.length co6, u325001] 74 (0, 0)) (zH BK324.out) hg (Kd.R_ne HO_325001.out BK324.out (by decide))); have n3_ := Aside0.mk (IsS67.grown (zI672 HI0.out NB0_318.out NB0_324.out) hg (IsS67.own_ne HI0.out HO_325001.out (by decide))); have n4_ := Aside0.mk (below_weaken (zB3 HB.out (IsS67.ge HI0.out) GE318.out GE324.out) HL.out hb); have n5_ := Aside0.mk (KeepBut.trans (zK2 HK.out GW318.out GW324.out) (KeepBut.of_grown hg g) (Kd.R_base2 HO_325001.out)); have n6_ := Aside0.mk (ho); clear HO_325000; clear BK318; clear BK324; clear HI0; clear HB; clear HK; clear HO_325001; have HO_325000 := n0_; have BK318 := n1_; have BK324 := n2_; have HI0 := n3_; have HB := n4_; have HK := n5_; have HO335 := n6_; clear n0_ n1_ n2_ n3_ n4_ n5_ n6_; clear ho hb hg hat; obtain ⟨Ao43, co43, eo43⟩ := Kd.R_slice HO335.out; subst eo43; have hcz44_0 : w42.cell? ⟨gb324, 0, none⟩ = some (.slice (some ad325) t319.length co6) := (blk_cell BK324.out 0).trans rfl; have hcz44_1 : w42.cell? ⟨gb324, 1, none⟩ = some (u325001) := (blk_cell BK324.out 1).trans rfl; have hfz44_0 := blk_frozen BK324.out 0; have hfz44_1 := blk_frozen BK324.out 1))
        go_roundg k1
        case measure => have := HK1.out; omega
        case rel => exact ⟨(t329), (wrap64 (x7_1 + 1)), (t331), (t332), (y333), (.slice Ao43 y333.length co43), zs, zs, H', ⟨by have := HK1.out; omega⟩, ⟨zR (Kd.R_mono (Kd.R_far (p := ⟨gb324, 1, none⟩) (Kd.R_types HO_325000.out BK324.out (by decide)) (fun _ hk => hk.2) (.slice Ao43 y333.length co43)) (fun _ hk => hk.1.2))⟩, ⟨zR (Kd.R_mono (Kd.R_far (p := ⟨gb324, 1, none⟩) (Kd.R_types HO335.out BK324.out (by decide)) (fun _ hk => hk.2) (.slice Ao43 y333.length co43)) (fun _ hk => hk.1))⟩, ⟨by (with_reducible repeat (first | refine blk_drewN ?_ _ | refine blk_drew ?_ | refine blk_alloc ?_ _)); refine blk_far ?_ NB318_324.out _; (with_reducible repeat (first | refine blk_drewN ?_ _ | refine blk_drew ?_ | refine blk_alloc ?_ _)); exact BK318.out⟩, ⟨by (with_reducible repeat (first | refine blk_drewN ?_ _ | refine blk_drew ?_ | refine blk_alloc ?_ _)); refine blk_put (cs := #[.slice (some ad325) t319.length co6, u325001]) ?_ 1 _ rfl; (with_reducible repeat (first | refine blk_drewN ?_ _ | refine blk_drew ?_ | refine blk_alloc ?_ _)); exact BK324.out⟩, ⟨zI672 HI0.out NB0_318.out NB0_324.out⟩, ⟨zK2 HK.out GW318.out GW324.out⟩, ⟨zB3 HB.out (IsS67.ge HI0.out) GE318.out GE324.out⟩⟩
       ·rw [if_neg c35] at H
        exact absurd H (by simp)
    ·rw [if_neg c12] at H
     exact absurd H (by simp)
   ·rw [if_neg c11] at H
    have c11b0 : decide (x7_1 < (t319.length : Int)) = false := decide_eq_false c11
    clear c11
    simp only [Option.some.injEq, Prod.mk.injEq] at H
    obtain ⟨rfl, rfl, rfl, rfl⟩ := H
    have hnb45 := NB324_318.out
    have hnc45 := NB318_324.out
    have hnb46 := NB324_0.out
    have hnc46 := NB0_324.out
    have hcz47_0 : wr.cell? ⟨gb324, 0, none⟩ = some (.slice Ao6 t319.length co6) := (blk_cell BK324.out 0).trans rfl
    have hcz47_1 : wr.cell? ⟨gb324, 1, none⟩ = some (u325001) := (blk_cell BK324.out 1).trans rfl
    have hfz47_0 := blk_frozen BK324.out 0
    have hfz47_1 := blk_frozen BK324.out 1
    have hnb48 := NB318_0.out
    have hnc48 := NB0_318.out
    have hcz49_0 : wr.cell? ⟨gb318, 0, none⟩ = some (.slice none 0 0) := (blk_cell BK318.out 0).trans rfl
    have hcz49_1 : wr.cell? ⟨gb318, 1, none⟩ = some (.slice none 0 0) := (blk_cell BK318.out 1).trans rfl
    have hfz49_0 := blk_frozen BK318.out 0
    have hfz49_1 := blk_frozen BK318.out 1
    obtain ⟨Ao50, co50, eo50⟩ := Kd.R_slice HO_325001.out
    subst eo50
    go_wp2
    refine bodyPost_ret (results_cell_row rfl _ _ gb318 74 #[.slice Ao6 t319.length co6, .slice Ao50 x325001_1.length co50] (0, 0) _ rfl (by (with_reducible repeat (first | refine blk_drewN ?_ _ | refine blk_drew ?_ | refine blk_alloc ?_ _)); refine blk_put (cs := #[.slice Ao6 t319.length co6, .slice none 0 0]) ?_ 1 _ rfl; (with_reducible repeat (first | refine blk_drewN ?_ _ | refine blk_drew ?_ | refine blk_alloc ?_ _)); refine blk_put (cs := #[.slice none 0 0, .slice none 0 0]) ?_ 0 _ rfl; (with_reducible repeat (first | refine blk_drewN ?_ _ | refine blk_drew ?_ | refine blk_alloc ?_ _)); exact BK318.out) Tryz.underlying74 rfl (by kernel_rfl)) rfl ?_
    exact ⟨_, _, zr, zR (Kd.R_mono (Kd.R_far (p := ⟨gb318, 1, none⟩) (Kd.R_far (p := ⟨gb318, 0, none⟩) (Kd.R_types HO_325000.out BK318.out (by decide)) (fun _ hk => hk.2) (.slice Ao6 t319.length co6)) (fun _ hk => hk.2) (.slice Ao50 x325001_1.length co50)) (fun _ hk => hk.1)), zR (Kd.R_mono (Kd.R_far (p := ⟨gb318, 1, none⟩) (Kd.R_far (p := ⟨gb318, 0, none⟩) (Kd.R_types HO_325001.out BK318.out (by decide)) (fun _ hk => hk.2) (.slice Ao6 t319.length co6)) (fun _ hk => hk.2) (.slice Ao50 x325001_1.length co50)) (fun _ hk => hk.1)), zI672 HI0.out NB0_318.out NB0_324.out, zB3 HB.out (IsS67.ge HI0.out) GE318.out GE324.out, zK2 HK.out GW318.out GW324.out⟩

def spec_l5Draw.f (k : Nat) (s0_0 : List Int) (s0_1 : Int) (s0_2 : Int) (a1 : Int) : Option (List Int × (List (List Int)) × Int × Int) := (spec_l4Draw.f k s0_0 s0_1 s0_2 a1).bind fun bt337 => ((spec_l5Fill.f k s0_0 bt337.2.2.1 bt337.2.2.2 bt337.1 bt337.2.1).bind fun bt345 => ((spec_IsTableau.f k bt345.1 bt345.2.1).bind fun t354 => (if t354 = true then (some (bt345.1, bt345.2.1, bt345.2.2.1, bt345.2.2.2)) else (some (([] : List Int), (([(([1, 1, 2] : List Int)), (([2, 3] : List Int))] : List (List Int))), bt345.2.2.1, bt345.2.2.2)))))




def spec_ReadingWord.l0 : Nat → List Int → Int → List Int → List (List Int) → Option (List Int)
 | 0, _, _, _, _ => none
 | k + 1, x3, x4, x365000, x365001 => if x4 ≥ 0 then ((spec_IsTableau.f k x365000 x365001).bind fun t368 => (if t368 = true then (if 0 ≤ x4 then (if x4 < (x365001.length : Int) then (if x3.length + (rd_L2 x365001 x4).length < 17592186044416 then (spec_ReadingWord.l0 k (x3 ++ (rd_L2 x365001 x4)) (wrap64 (x4 - 1)) x365000 x365001) else (none)) else (none)) else (none)) else (some x3))) else (some x3)
def spec_ReadingWord.f (k : Nat) (l0_0 : List Int) (l0_1 : List (List Int)) : Option (List Int) := spec_ReadingWord.l0 k (([] : List Int)) (wrap64 ((l0_1.length : Int) - 1)) l0_0 l0_1
set_option maxHeartbeats 8000000 in
set_option maxRecDepth 100000 in
theorem spec_ReadingWord.calls (k : Nat) (A0_0 : Option Addr) (c0_0 : Nat) (l0_0 : List Int) (A0_1 : Option Addr) (c0_1 : Nat) (l0_1 : List (List Int)) (r : List Int) (w : World) (hr0_0 : Kd.C (Kd.int .i64) w A0_0 l0_0.length l0_0) (hc0_0 : l0_0.length ≤ c0_0) (hr0_1 : Kd.C (Kd.slice 3 (Kd.int .i64)) w A0_1 l0_1.length l0_1) (hc0_1 : l0_1.length ≤ c0_1) (h : spec_ReadingWord.f k l0_0 l0_1 = some r) :
  Calls Tryz.prog 18 #[.agg #[.slice A0_0 l0_0.length c0_0, .slice A0_1 l0_1.length c0_1]] w fun e w' => ∃ v0_ : Value, e = .returned (v0_) ∧ Kd.R (Kd.int .i64) 3 w' w.heap.size (fun _ => True) v0_ r ∧ Below w.heap.size w w' := by
 have hu29 := Tryz.underlying29
 have HR0_0 := Aside0.mk hr0_0
 have HC0_0 := Aside0.mk hc0_0
 clear hr0_0 hc0_0
 have HR0_1 := Aside0.mk hr0_1
 have HC0_1 := Aside0.mk hc0_1
 clear hr0_1 hc0_1
 have HB := Aside0.mk (Below.refl w.heap.size w)
 have H : (spec_ReadingWord.l0 k (([] : List Int)) (wrap64 ((l0_1.length : Int) - 1)) l0_0 l0_1) = some r := h
 clear h
 obtain ⟨y365, hy365⟩ : ∃ y_ : List Int, y_ = (([] : List Int)) := ⟨_, rfl⟩
 replace H : (spec_ReadingWord.l0 k y365 (wrap64 ((l0_1.length : Int) - 1)) l0_0 l0_1) = some r := zY hy365 H
 have Ny365 := Aside0.mk hy365
 clear hy365
 have H' := Aside0.mk H
 clear H
 go_enter Tryz.func18, Tryz.ntmps18
 go_wp2_with (first | ((with_reducible refine gate_dst (N := 1) rfl ?_); refine zX (N := 1) (cs := #[.slice A0_0 l0_0.length c0_0, .slice A0_1 l0_1.length c0_1]) (t := 29) ?_; intro gb364 hg w2 hbox hb; have n0_ := Aside0.mk (below_step (zB HB.out) hb); have n1_ := Aside0.mk (hbox); have n2_ := Aside0.mk ((by rw [hg]; exact (below_size (zB HB.out)) : w.heap.size ≤ gb364)); have n3_ := Aside0.mk ((by rw [hg]; exact (below_size (zB HB.out)) : w.heap.size ≤ gb364)); clear HB; have HB := n0_; have BK364 := n1_; have GW364 := n2_; have GE364 := n3_; clear n0_ n1_ n2_ n3_; clear hb hbox hg) | ((with_reducible refine gate_dst (N := 5) rfl ?_); refine Kd.R_lit (Kd.int .i64) _ 3 ?hg (N := 5) ?hd (xs := ([] : List Int)) (inner := []) (ok := fun _ => True) (okp := fun _ => True) ?hr ?hp (fun _ hk => hk) trivial (Below.refl _ _) (Nat.le_refl _) (by simp) ?_; (case hd => rfl); (case hg => rfl); (case hr => first | (go_simp; done) | (go_simp; rfl)); (case hp => exact (Reps.none _ _)); intro v366 w3 ho4 hb hg_ hnew_; clear hg_ hnew_; (first | rw [← Ny365.out] at ho4 | (simp only [Int.reduceToNat] at ho4; rw [← Ny365.out] at ho4)); have n0_ := Aside0.mk (Kd.R_lower ho4 (below_size (zB1 HB.out GE364.out))); have n1_ := Aside0.mk (blk_below (g := gb364) (o := .cells #[.slice A0_0 l0_0.length c0_0, .slice A0_1 l0_1.length c0_1] 29 (0, 0)) (zH BK364.out) hb); have n2_ := Aside0.mk (below_step (zB1 HB.out GE364.out) hb); clear BK364; clear HB; have HO367 := n0_; have BK364 := n1_; have HB := n2_; clear n0_ n1_ n2_; clear hb ho4; have hcz5_0 : w3.cell? ⟨gb364, 0, none⟩ = some (.slice A0_0 l0_0.length c0_0) := (blk_cell BK364.out 0).trans rfl; have hcz5_1 : w3.cell? ⟨gb364, 1, none⟩ = some (.slice A0_1 l0_1.length c0_1) := (blk_cell BK364.out 1).trans rfl; have hfz5_0 := blk_frozen BK364.out 0; have hfz5_1 := blk_frozen BK364.out 1))
 go_loopg [3, 4] k (fun kq v3 v4 w' => ∃ (x3_1 : List Int) (x4_1 : Int), v4 = .int .i64 x4_1 ∧ Aside0 (spec_ReadingWord.l0 kq x3_1 x4_1 l0_0 l0_1 = some r) ∧ Aside0 (kq ≤ k) ∧ Aside0 (Kd.R (Kd.int .i64) 3 w' w.heap.size (fun _ => True) v3 x3_1) ∧ Aside0 (w'.heap[gb364]? = some (.cells #[(.slice A0_0 l0_0.length c0_0), (.slice A0_1 l0_1.length c0_1)] 29 (0, 0))) ∧ Aside0 (Below w.heap.size w w'))
 case atStart => exact ⟨(y365), (wrap64 ((l0_1.length : Int) - 1)), zs, H', ⟨Nat.le_refl _⟩, ⟨zR HO367.out⟩, ⟨zH BK364.out⟩, ⟨zB1 HB.out GE364.out⟩⟩
 case round =>
  clear H'
  try clear c1
  try clear p2
  try clear hcz5_0
  try clear hcz5_1
  try clear hfz5_0
  try clear hfz5_1
  obtain ⟨x3_1, x4_1, rfl, HA, HK1, HO_3, BK364, HB⟩ := hrel
  cases gk with
  | zero => exact absurd HA.out (by simp [spec_ReadingWord.l0])
  | succ k1 =>
   have H := HA.out
   clear HA
   simp only [spec_ReadingWord.l0] at H
   by_cases c6 : x4_1 ≥ 0
   ·rw [if_pos c6] at H
    have c6b0 : decide (0 ≤ x4_1) = true := decide_eq_true c6
    clear c6
    replace H := Option.bind_eq_some_iff.mp H
    obtain ⟨t368, A70, H⟩ := H
    replace H : (if t368 = true then (if 0 ≤ x4_1 then (if x4_1 < (l0_1.length : Int) then (if x3_1.length + (rd_L2 l0_1 x4_1).length < 17592186044416 then (spec_ReadingWord.l0 k1 (x3_1 ++ (rd_L2 l0_1 x4_1)) (wrap64 (x4_1 - 1)) l0_0 l0_1) else (none)) else (none)) else (none)) else (some x3_1)) = some r := H
    have A7 := Aside0.mk A70
    clear A70
    by_cases c8 : t368 = true
    ·subst c8
     have H1 : (if 0 ≤ x4_1 then (if x4_1 < (l0_1.length : Int) then (if x3_1.length + (rd_L2 l0_1 x4_1).length < 17592186044416 then (spec_ReadingWord.l0 k1 (x3_1 ++ (rd_L2 l0_1 x4_1)) (wrap64 (x4_1 - 1)) l0_0 l0_1) else (none)) else (none)) else (none)) = some r := by rw [if_pos rfl] at H; exact H
     clear H
     have H := H1
     clear H1
     by_cases c9 : 0 ≤ x4_1
     ·rw [if_pos c9] at H
      have c9b0 : decide (0 ≤ x4_1) = true := decide_eq_true c9
      clear c9
      by_cases c10 : x4_1 < (l0_1.length : Int)
      ·rw [if_pos c10] at H
       have c10b0 : decide (x4_1 < (l0_1.length : Int)) = true := decide_eq_true c10
       clear c10
       by_cases c11 : x3_1.length + (rd_L2 l0_1 x4_1).length < 17592186044416
       ·rw [if_pos c11] at H
        have LMc11 := Aside0.mk c11
        clear c11
        obtain ⟨y370, hy370⟩ : ∃ y_ : List Int, y_ = (x3_1 ++ (rd_L2 l0_1 x4_1)) := ⟨_, rfl⟩
        replace H : (spec_ReadingWord.l0 k1 y370 (wrap64 (x4_1 - 1)) l0_0 l0_1) = some r := zY hy370 H
        have Ny370 := Aside0.mk hy370
        clear hy370
        have H' := Aside0.mk H
        clear H
        have hcz12_0 : wr.cell? ⟨gb364, 0, none⟩ = some (.slice A0_0 l0_0.length c0_0) := (blk_cell BK364.out 0).trans rfl
        have hcz12_1 : wr.cell? ⟨gb364, 1, none⟩ = some (.slice A0_1 l0_1.length c0_1) := (blk_cell BK364.out 1).trans rfl
        have hfz12_0 := blk_frozen BK364.out 0
        have hfz12_1 := blk_frozen BK364.out 1
        go_wp2_with (first | (go_at_call 46; (with_reducible refine (spec_IsTableau.calls k1 _ _ l0_0 _ _ l0_1 true _ ?side1 ?side2 ?side3 ?side4 A7.out).mono ?_); (case side1 => exact zQ (Kd.C_below HR0_0.out HB.out)); (case side2 => exact HC0_0.out); (case side3 => exact zQ (Kd.C_below HR0_1.out HB.out)); (case side4 => exact HC0_1.out); rintro e w13 ⟨rfl, hb⟩; have n0_ := Aside0.mk (Kd.R_below (zR HO_3.out) hb); have n1_ := Aside0.mk (blk_below (g := gb364) (o := .cells #[.slice A0_0 l0_0.length c0_0, .slice A0_1 l0_1.length c0_1] 29 (0, 0)) (zH BK364.out) hb); have n2_ := Aside0.mk (below_step (zB1 HB.out GE364.out) hb); clear HO_3; clear BK364; clear HB; have HO_3 := n0_; have BK364 := n1_; have HB := n2_; clear n0_ n1_ n2_; (try clear hb); (try clear hb2); (try clear hk); (try clear hi); have hcz14_0 : w13.cell? ⟨gb364, 0, none⟩ = some (.slice A0_0 l0_0.length c0_0) := (blk_cell BK364.out 0).trans rfl; have hcz14_1 : w13.cell? ⟨gb364, 1, none⟩ = some (.slice A0_1 l0_1.length c0_1) := (blk_cell BK364.out 1).trans rfl; have hfz14_0 := blk_frozen BK364.out 0; have hfz14_1 := blk_frozen BK364.out 1; have p369 : 0 ≤ (x4_1 : Int) := zd; have q369 : x4_1 < (l0_1.length : Int) := zd; obtain ⟨ad369, A369_0, c369_0, e369, hx369_0, hl369_0, hi369_0⟩ := at_L2 HR0_1.out x4_1 p369 q369; cases e369; replace hx369_0 := (HB.out.cell (World.block_lt_of_cell? w _ hx369_0)).trans hx369_0; have HR369_0 := Aside0.mk hi369_0; have HC369_0 := Aside0.mk hl369_0; clear hi369_0 hl369_0; replace p369 := eq_true p369; replace q369 := eq_true q369) | ((with_reducible refine gate_builtin (b := .append) (xs := #[.tmp 18, .tmp 23]) rfl ?_); at_builtin; refine Kd.R_append_rows (Kd.int .i64) (w0 := w) w.heap.size rfl (.tmp 18) (.tmp 23) 24 3 (.int .i64 0) 8 rfl Tryz.underlying24 info3 rfl (by decide) (by omega) u3 x3_1 (rd_L2 l0_1 x4_1) _ _ _ (fun _ => True) (fun _ => False) rfl rfl ?aO ?aR (fun _ _ h => h) (fun _ h => h.elim) ?aF ?aB ?aS ?aL ?_; (case aR => exact zQ (Kd.C_below HR369_0.out HB.out)); (case aB => exact (zB1 HB.out GE364.out)); (case aF => exact (fun _ _ => trivial)); (case aO => exact (zR HO_3.out)); (case aS => exact (below_size (zB1 HB.out GE364.out))); (case aL => have := LMc11.out; omega); intro v371 w15 ho hb hg hat; rw [← Ny370.out] at ho; have n0_ := Aside0.mk (blk_grown (g := gb364) (o := .cells #[.slice A0_0 l0_0.length c0_0, .slice (some ad369) l0_1.length c0_1] 29 (0, 0)) (zH BK364.out) hg (Kd.R_ne HO_3.out BK364.out (by decide))); have n1_ := Aside0.mk (hb); have n2_ := Aside0.mk (ho); clear BK364; clear HB; clear HO_3; have BK364 := n0_; have HB := n1_; have HO372 := n2_; clear n0_ n1_ n2_; clear ho hb hg hat))
        go_roundg k1
        case measure => have := HK1.out; omega
        case rel => exact ⟨(y370), (wrap64 (x4_1 - 1)), zs, H', ⟨by have := HK1.out; omega⟩, ⟨zR HO372.out⟩, ⟨zH BK364.out⟩, ⟨zB1 HB.out GE364.out⟩⟩
       ·rw [if_neg c11] at H
        exact absurd H (by simp)
      ·rw [if_neg c10] at H
       exact absurd H (by simp)
     ·rw [if_neg c9] at H
      exact absurd H (by simp)
    ·replace c8 := Bool.eq_false_iff.mpr c8
     subst c8
     have H1 : (some x3_1) = some r := by rw [if_neg (show ¬ (false = true) by decide)] at H; exact H
     clear H
     have H := H1
     clear H1
     obtain rfl := Option.some.inj H
     have hcz16_0 : wr.cell? ⟨gb364, 0, none⟩ = some (.slice A0_0 l0_0.length c0_0) := (blk_cell BK364.out 0).trans rfl
     have hcz16_1 : wr.cell? ⟨gb364, 1, none⟩ = some (.slice A0_1 l0_1.length c0_1) := (blk_cell BK364.out 1).trans rfl
     have hfz16_0 := blk_frozen BK364.out 0
     have hfz16_1 := blk_frozen BK364.out 1
     go_wp2_with (first | (go_at_call 46; (with_reducible refine (spec_IsTableau.calls k1 _ _ l0_0 _ _ l0_1 false _ ?side1 ?side2 ?side3 ?side4 A7.out).mono ?_); (case side1 => exact zQ (Kd.C_below HR0_0.out HB.out)); (case side2 => exact HC0_0.out); (case side3 => exact zQ (Kd.C_below HR0_1.out HB.out)); (case side4 => exact HC0_1.out); rintro e w17 ⟨rfl, hb⟩; have n0_ := Aside0.mk (Kd.R_below (zR HO_3.out) hb); have n1_ := Aside0.mk (blk_below (g := gb364) (o := .cells #[.slice A0_0 l0_0.length c0_0, .slice A0_1 l0_1.length c0_1] 29 (0, 0)) (zH BK364.out) hb); have n2_ := Aside0.mk (below_step (zB1 HB.out GE364.out) hb); clear HO_3; clear BK364; clear HB; have HO_3 := n0_; have BK364 := n1_; have HB := n2_; clear n0_ n1_ n2_; (try clear hb); (try clear hb2); (try clear hk); (try clear hi)))
     go_ret
     exact ⟨_, zr, zR HO_3.out, zB1 HB.out GE364.out⟩
   ·rw [if_neg c6] at H
    have c6b0 : decide (0 ≤ x4_1) = false := decide_eq_false c6
    clear c6
    obtain rfl := Option.some.inj H
    go_wp2
    go_ret
    exact ⟨_, zr, zR HO_3.out, zB1 HB.out GE364.out⟩

end Go.Proofs.YtpandocpclecgaaGreatDoor.F
