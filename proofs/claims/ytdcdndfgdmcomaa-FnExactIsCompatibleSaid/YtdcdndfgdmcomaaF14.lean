/- For each Go function named below: the plain Lean function that it computes, and that its call returns just that; conditions: those that each theorem names. -/
import Derived.Test.YtdcdndfgdmcomaaF0
import Derived.Test.YtdcdndfgdmcomaaF9
import Derived.Test.YtdcdndfgdmcomaaF12
import Derived.Test.YtdcdndfgdmcomaaF13
namespace Go.Proofs.Ytdcdndfgdmcomaa.F
open Go.RowKit Go.Proofs.YtdcdndfgdmcomaaW.PrintWords Go.Proofs.YtdcdndfgdmcomaaW.PrintLast Go.Proofs.YtdcdndfgdmcomaaW.PrintMore
attribute [local go_sem] max2_int min2_int max_two min_two max_three min_three max_four min_four   -- for this text's walks alone
set_option linter.unusedVariables false
set_option linter.unusedSimpArgs false
abbrev zB14_0 : Array Bool := #[false, false, false, false, false, false, false, false, false, false, false, false, false, false, false, false, false]
abbrev zB14_1 : Array Bool := #[true, false, false, false, false, false, false, false, false, false, false, false, false, false, false, false, false]
abbrev zB14_2 : Array Bool := #[true, true, false, false, false, false, false, false, false, false, false, false, false, false, false, false, false]
abbrev zB14_3 : Array Bool := #[true, true, true, false, false, false, false, false, false, false, false, false, false, false, false, false, false]
abbrev zB14_4 : Array Bool := #[true, true, true, true, false, false, false, false, false, false, false, false, false, false, false, false, false]
abbrev zB14_5 : Array Bool := #[true, true, true, true, true, false, false, false, false, false, false, false, false, false, false, false, false]
abbrev zB14_6 : Array Bool := #[true, true, true, true, true, true, false, false, false, false, false, false, false, false, false, false, false]
abbrev zB14_7 : Array Bool := #[true, true, true, true, true, true, true, false, false, false, false, false, false, false, false, false, false]
abbrev zB14_8 : Array Bool := #[true, true, true, true, true, true, true, true, false, false, false, false, false, false, false, false, false]
abbrev zB14_9 : Array Bool := #[true, true, true, true, true, true, true, true, true, false, false, false, false, false, false, false, false]
abbrev zB14_10 : Array Bool := #[true, true, true, true, true, true, true, true, true, true, false, false, false, false, false, false, false]
abbrev zB14_11 : Array Bool := #[true, true, true, true, true, true, true, true, true, true, true, true, true, false, false, false, false]
abbrev zB14_12 : Array Bool := #[true, true, true, true, true, true, true, true, true, true, true, true, true, true, false, false, false]
abbrev zB14_13 : Array Bool := #[true, true, true, true, true, true, true, true, true, true, true, true, true, true, true, false, false]
abbrev zB14_14 : Array Bool := #[true, true, true, true, true, true, true, true, true, true, true, true, true, true, true, true, false]
abbrev zB14_15 : Array Bool := #[true, true, true, true, true, true, true, true, true, true, true, true, true, true, true, true, true]
abbrev zB14_16 : Array Bool := #[true, true, true, true, true, true, true, true, true, true, true, false, false, false, false, false, false]
abbrev zB14_17 : Array Bool := #[true, true, true, true, true, true, true, true, true, true, true, true, false, false, false, false, false]

def compatO (p : Int → Option Bool) : List Int → Option Bool
 | [] => some true
 | d :: l => (p d).bind fun b => if b = true then compatO p l else some false
theorem compatO_mono {p q : Int → Option Bool} (h : ∀ x, LeO (p x) (q x)) : ∀ l, LeO (compatO p l) (compatO q l)
 | [] => LeO.refl _
 | x :: l => LeO.bind (h x) (fun _ => LeO.ite (compatO_mono h l) (LeO.refl _))
def endsAt (k : Nat) (l1 : List Int) (d : Int) : Option Bool := (impl_sums.f k l1).bind fun ss => some (ss.any (fun n => decide (n = d)))
def impl_IsCompatible.j0 (k : Nat) (l0_0 : List Int) (l0_1 : List (List Int)) (l1 : List Int) (b : Bool) : Option Bool := if b = true then some false else (impl_DescentsOf.f k l0_0 l0_1).bind fun ds => compatO (endsAt k l1) ds
theorem impl_IsCompatible.j0_mono (l0_0 : List Int) (l0_1 : List (List Int)) (l1 : List Int) (b : Bool) (k : Nat) : LeO (impl_IsCompatible.j0 k l0_0 l0_1 l1 b) (impl_IsCompatible.j0 (k + 1) l0_0 l0_1 l1 b) :=
 LeO.ite (LeO.refl _) (LeO.bind (impl_DescentsOf.mono _ _ _) (fun _ => compatO_mono (fun _ => LeO.bind (impl_sums.mono _ _) (fun _ => LeO.refl _)) _))
def impl_IsCompatible.f (k : Nat) (l0_0 : List Int) (l0_1 : List (List Int)) (l1 : List Int) : Option (Bool) := (impl_IsStandard.f k l0_0 l0_1).bind fun t330 => (if t330 = true then ((impl_isWeight.f l1).bind fun t331 => (if t331 = true then ((impl_sum.f k l1).bind fun t332 => ((slices_Concat_int_int.f k l0_1).bind fun t333 => (impl_IsCompatible.j0 k l0_0 l0_1 l1 (t332 != (t333.length : Int))))) else (impl_IsCompatible.j0 k l0_0 l0_1 l1 true))) else (impl_IsCompatible.j0 k l0_0 l0_1 l1 true))
theorem impl_IsCompatible.mono (l0_0 : List Int) (l0_1 : List (List Int)) (l1 : List Int) (k : Nat) : LeO (impl_IsCompatible.f k l0_0 l0_1 l1) (impl_IsCompatible.f (k + 1) l0_0 l0_1 l1) := by
 unfold impl_IsCompatible.f
 refine LeO.bind (impl_IsStandard.mono _ _ _) (fun _ => LeO.ite (LeO.bind (LeO.refl _) (fun _ => LeO.ite (LeO.bind (impl_sum.mono _ _) (fun _ => LeO.bind (slices_Concat_int_int.mono _ _) (fun _ => impl_IsCompatible.j0_mono _ _ _ _ _))) (impl_IsCompatible.j0_mono _ _ _ _ _))) (impl_IsCompatible.j0_mono _ _ _ _ _))
theorem isCompat_lit (n d : Int) (b : Nat) (w : World) (hb : w.heap[b]? = some (.cells #[.int .i64 d] 3 (0, 0))) : Calls Try.prog 51 #[.int .i64 n, .pointer (some ⟨b, 0, none⟩)] w fun e w' => e = .returned (.bool (decide (n = d))) ∧ w = w' := by
 have h1 : w.cell? ⟨b, 0, none⟩ = some (.int .i64 d) := (blk_cell hb 0).trans rfl
 go_enter Try.func51, Try.ntmps51
 go_wp2
 go_ret
 exact ⟨by simp; rfl, rfl⟩
def impl_IsCompatible.T1 : Bool × List (List Nat × List Nat) := (true, [([], []), ([0], [0]), ([1], [1]), ([2, 1], [2]), ([3], [3]), ([4, 3, 3], [3, 4]), ([5, 3], [3, 5]), ([3, 6], [3, 6]), ([7, 5], [7]), ([8], [8]), ([9, 8, 8], [8, 9]), ([8], [8]), ([11, 8], [8, 11]), ([12, 10, 8], [8, 12]), ([13, 8], [8, 13]), ([10, 14, 8], [8, 10, 14]), ([8, 15], [8, 15])])
def impl_IsCompatible.B1 : List Nat := [0, 1, 3, 7, 15, 31, 63, 127, 255, 511, 1023, 511, 2559, 8191, 16383, 32767, 65535]
theorem impl_IsCompatible.tab1 : rtab .any (opsOf Try.f28 1) = impl_IsCompatible.T1 := by kernel_rfl
theorem impl_IsCompatible.bits1 : waitsOk impl_IsCompatible.T1.2 impl_IsCompatible.B1 = true := by kernel_rfl
set_option maxHeartbeats 8000000 in
set_option maxRecDepth 100000 in
theorem impl_IsCompatible.calls (k : Nat) (A0_0 : Option Addr) (c0_0 : Nat) (l0_0 : List Int) (A0_1 : Option Addr) (c0_1 : Nat) (l0_1 : List (List Int)) (A1 : Option Addr) (c1 : Nat) (l1 : List Int) (r : Bool) (w : World) (hr0_0 : Kd.C (Kd.int .i64) w A0_0 l0_0.length l0_0) (hc0_0 : l0_0.length ≤ c0_0) (hr0_1 : Kd.C (Kd.slice 3 (Kd.int .i64)) w A0_1 l0_1.length l0_1) (hc0_1 : l0_1.length ≤ c0_1) (hr1 : Kd.C (Kd.int .i64) w A1 l1.length l1) (hc1 : l1.length ≤ c1) (h : impl_IsCompatible.f k l0_0 l0_1 l1 = some r) :
  Calls Try.prog 28 #[.agg #[.slice A0_0 l0_0.length c0_0, .slice A0_1 l0_1.length c0_1], .slice A1 l1.length c1] w fun e w' => e = .returned (.bool r) ∧ Below w.heap.size w w' := by
 have hu26 := Try.underlying26
 have HR0_0 := Aside0.mk hr0_0
 have HC0_0 := Aside0.mk hc0_0
 clear hr0_0 hc0_0
 have HR0_1 := Aside0.mk hr0_1
 have HC0_1 := Aside0.mk hc0_1
 clear hr0_1 hc0_1
 have HR1 := Aside0.mk hr1
 have HC1 := Aside0.mk hc1
 clear hr1 hc1
 have HB := Aside0.mk (Below.refl w.heap.size w)
 have H : ((impl_IsStandard.f k l0_0 l0_1).bind fun t330 => (if t330 = true then ((impl_isWeight.f l1).bind fun t331 => (if t331 = true then ((impl_sum.f k l1).bind fun t332 => ((slices_Concat_int_int.f k l0_1).bind fun t333 => (impl_IsCompatible.j0 k l0_0 l0_1 l1 (t332 != (t333.length : Int))))) else (impl_IsCompatible.j0 k l0_0 l0_1 l1 true))) else (impl_IsCompatible.j0 k l0_0 l0_1 l1 true))) = some r := h
 clear h
 have HC3 := Aside0.mk H
 clear H
 go_enter Try.func28, Try.ntmps28
 go_upto_region 1 with (first | ((with_reducible refine gate_dst (N := 2) rfl ?_); (try (refine gate_guard (by rfl) ?_; dsimp only)); refine zX (N := 2) (cs := #[.slice A0_0 l0_0.length c0_0, .slice A0_1 l0_1.length c0_1]) (t := 26) ?_; intro gb329 hg w4 hbox hb; have n0_ := Aside0.mk (below_step (by repeat (first | (with_reducible first | exact HB.out | apply below_alloc | apply pw_below_drewN | apply below_drew1) | exact HB.out)) hb); have n1_ := Aside0.mk (hbox); have n2_ := Aside0.mk ((by rw [hg]; exact (below_size (by repeat (first | (with_reducible first | exact HB.out | apply below_alloc | apply pw_below_drewN | apply below_drew1) | exact HB.out))) : w.heap.size ≤ gb329)); have n3_ := Aside0.mk ((by rw [hg]; exact (below_size (by repeat (first | (with_reducible first | exact HB.out | apply below_alloc | apply pw_below_drewN | apply below_drew1) | exact HB.out))) : w.heap.size ≤ gb329)); clear HB; have HB := n0_; have BK329 := n1_; have GW329 := n2_; have GE329 := n3_; clear n0_ n1_ n2_ n3_; clear hb hbox hg))
 (try simp only [Act.put, List.setIfInBounds_toArray, List.set_cons_zero, List.set_cons_succ])
 go_cut [23] (fun v23 wc => ∃ (kq : Nat) (x23_2 : Bool), v23 = .bool x23_2 ∧ Aside0 (impl_IsCompatible.j0 kq l0_0 l0_1 l1 x23_2 = some r) ∧ Aside0 (kq ≤ k) ∧ Aside0 (wc.heap[gb329]? = some (.cells #[(.slice A0_0 l0_0.length c0_0), (.slice A0_1 l0_1.length c0_1)] 26 (0, 0))) ∧ Aside0 (Below w.heap.size w wc))
 case first =>
  have H := HC3.out
  clear HC3
  replace H := Option.bind_eq_some_iff.mp H
  obtain ⟨t330, A50, H⟩ := H
  replace H : (if t330 = true then ((impl_isWeight.f l1).bind fun t331 => (if t331 = true then ((impl_sum.f k l1).bind fun t332 => ((slices_Concat_int_int.f k l0_1).bind fun t333 => (impl_IsCompatible.j0 k l0_0 l0_1 l1 (t332 != (t333.length : Int))))) else (impl_IsCompatible.j0 k l0_0 l0_1 l1 true))) else (impl_IsCompatible.j0 k l0_0 l0_1 l1 true)) = some r := H
  have A5 := Aside0.mk A50
  clear A50
  by_cases c6 : t330 = true
  ·subst c6
   have H1 : ((impl_isWeight.f l1).bind fun t331 => (if t331 = true then ((impl_sum.f k l1).bind fun t332 => ((slices_Concat_int_int.f k l0_1).bind fun t333 => (impl_IsCompatible.j0 k l0_0 l0_1 l1 (t332 != (t333.length : Int))))) else (impl_IsCompatible.j0 k l0_0 l0_1 l1 true))) = some r := by rw [if_pos rfl] at H; exact H
   clear H
   have H := H1
   clear H1
   replace H := Option.bind_eq_some_iff.mp H
   obtain ⟨t331, A70, H⟩ := H
   replace H : (if t331 = true then ((impl_sum.f k l1).bind fun t332 => ((slices_Concat_int_int.f k l0_1).bind fun t333 => (impl_IsCompatible.j0 k l0_0 l0_1 l1 (t332 != (t333.length : Int))))) else (impl_IsCompatible.j0 k l0_0 l0_1 l1 true)) = some r := H
   have A7 := Aside0.mk A70
   clear A70
   by_cases c8 : t331 = true
   ·subst c8
    have H1 : ((impl_sum.f k l1).bind fun t332 => ((slices_Concat_int_int.f k l0_1).bind fun t333 => (impl_IsCompatible.j0 k l0_0 l0_1 l1 (t332 != (t333.length : Int))))) = some r := by rw [if_pos rfl] at H; exact H
    clear H
    have H := H1
    clear H1
    replace H := Option.bind_eq_some_iff.mp H
    obtain ⟨t332, A90, H⟩ := H
    replace H : ((slices_Concat_int_int.f k l0_1).bind fun t333 => (impl_IsCompatible.j0 k l0_0 l0_1 l1 (t332 != (t333.length : Int)))) = some r := H
    have A9 := Aside0.mk A90
    clear A90
    replace H := Option.bind_eq_some_iff.mp H
    obtain ⟨t333, A100, H⟩ := H
    replace H : (impl_IsCompatible.j0 k l0_0 l0_1 l1 (t332 != (t333.length : Int))) = some r := H
    have A10 := Aside0.mk A100
    clear A100
    have H' := Aside0.mk H
    clear H
    try go_wp2
    have n0_ := Aside0.mk (blk_drew BK329.out)
    have n1_ := Aside0.mk (below_drew1 HB.out)
    clear BK329
    clear HB
    have BK329 := n0_
    have HB := n1_
    clear n0_ n1_
    refine start_ (n := 17) (S := fun w' => w'.cell? ⟨gb329, 0, none⟩ = some (.slice A0_0 l0_0.length c0_0) ∧ w'.cell? ⟨gb329, 1, none⟩ = some (.slice A0_1 l0_1.length c0_1)) (ds := []) zB14_0 (by kernel_rfl) rfl rfl ⟨(blk_cell BK329.out 0).trans rfl, (blk_cell BK329.out 1).trans rfl⟩ (fun hHeld => ?_); refine with_tabW impl_IsCompatible.tab1 impl_IsCompatible.bits1 (fun HT_ HW_ => ?_)
    generalize w4.drew = w11 at BK329 HB hHeld ⊢
    refine zT2 (i := 0) (N := some 7) zB14_1 (take_ofW HT_.out HW_.out (by kernel_rfl)) hHeld ?_
    refine one_ (i := 1) (N := some 8) zB14_2 rfl rfl (one_of HT_.out (by kernel_rfl)) (by decide) (fun K hK => ?_)
    refine zC Try.func36 #[.agg #[.slice A0_0 l0_0.length c0_0, .slice A0_1 l0_1.length c0_1]] ?_
    with_reducible refine (impl_IsStandard.calls k _ _ l0_0 _ _ l0_1 true _ ?side1 ?side2 ?side3 ?side4 A5.out).mono ?_
    (case side1 => repeat (first | exact (Kd.C_below HR0_0.out HB.out) | (with_reducible refine Kd.C_alloc ?_ _) | (with_reducible refine Kd.C_drewN ?_ _) | (with_reducible refine Kd.C_drew ?_)))
    (case side2 => exact HC0_0.out)
    (case side3 => repeat (first | exact (Kd.C_below HR0_1.out HB.out) | (with_reducible refine Kd.C_alloc ?_ _) | (with_reducible refine Kd.C_drewN ?_ _) | (with_reducible refine Kd.C_drew ?_)))
    (case side4 => exact HC0_1.out)
    rintro e w12 ⟨rfl, hb⟩
    refine ⟨_, rfl, ?_⟩
    have n0_ := Aside0.mk (blk_below (g := gb329) (o := .cells #[.slice A0_0 l0_0.length c0_0, .slice A0_1 l0_1.length c0_1] 26 (0, 0)) (by (with_reducible repeat (first | refine blk_drewN ?_ _ | refine blk_drew ?_ | refine blk_alloc ?_ _)); exact BK329.out) hb)
    have n1_ := Aside0.mk (below_step (by repeat (first | (with_reducible first | exact HB.out | apply below_alloc | apply pw_below_drewN | apply below_drew1 | refine below_set ?_ GE329.out) | exact HB.out)) hb)
    clear BK329
    clear HB
    have BK329 := n0_
    have HB := n1_
    clear n0_ n1_
    (try clear hb)
    (try clear hb2)
    (try clear hk)
    (try clear hi)
    refine hK.out _ _ ⟨(blk_cell BK329.out 0).trans rfl, (blk_cell BK329.out 1).trans rfl⟩ (fun hHeld => ?_)
    clear hK K
    refine norm_ (a' := ?_) ?_ ?_
    rotate_left
    ·show Act.put _ (some 8) _ = _
     simp only [Act.put, List.setIfInBounds_toArray, List.set_cons_zero, List.set_cons_succ, i64_w, i32_w]
     rfl
    refine zP (i := 2) (N := some 9) zB14_3 (any_of HT_.out (by kernel_rfl)) ?_
    refine zP (i := 3) (N := some 10) zB14_4 (any_of HT_.out (by kernel_rfl)) ?_
    refine zP (i := 4) (N := some 11) zB14_5 (any_of HT_.out (by kernel_rfl)) ?_
    refine one_ (i := 5) (N := some 12) zB14_6 rfl rfl (one_of HT_.out (by kernel_rfl)) (by decide) (fun K hK => ?_)
    refine zC Try.func47 #[.slice A1 l1.length c1] ?_
    with_reducible refine (impl_isWeight.calls _ _ l1 true _ ?side1 ?side2 A7.out).mono ?_
    (case side1 => repeat (first | exact (Kd.C_below HR1.out HB.out) | (with_reducible refine Kd.C_alloc ?_ _) | (with_reducible refine Kd.C_drewN ?_ _) | (with_reducible refine Kd.C_drew ?_)))
    (case side2 => exact HC1.out)
    rintro e w' ⟨rfl, ⟨nd, rfl⟩⟩
    refine ⟨_, rfl, ?_⟩
    refine hK.out _ _ ⟨(blk_cell BK329.out 0).trans rfl, (blk_cell BK329.out 1).trans rfl⟩ (fun hHeld => ?_)
    clear hK K
    refine norm_ (a' := ?_) ?_ ?_
    rotate_left
    ·show Act.put _ (some 12) _ = _
     simp only [Act.put, List.setIfInBounds_toArray, List.set_cons_zero, List.set_cons_succ, i64_w, i32_w]
     rfl
    refine zP (i := 6) (N := some 13) zB14_7 (any_of HT_.out (by kernel_rfl)) ?_
    refine zP (i := 7) (N := some 14) zB14_8 (any_of HT_.out (by kernel_rfl)) ?_
    refine zP (i := 8) (N := some 15) zB14_9 (any_of HT_.out (by kernel_rfl)) ?_
    refine zP (i := 9) (N := some 16) zB14_10 (any_of HT_.out (by kernel_rfl)) ?_
    refine zP (i := 11) (N := some 18) #[true, true, true, true, true, true, true, true, true, true, false, true, false, false, false, false, false] (any_of HT_.out (by kernel_rfl)) ?_
    refine zT2 (i := 12) (N := some 19) #[true, true, true, true, true, true, true, true, true, true, false, true, true, false, false, false, false] (take_ofW HT_.out HW_.out (by kernel_rfl)) hHeld ?_
    refine one_ (i := 10) (N := some 17) zB14_11 rfl rfl (one_of HT_.out (by kernel_rfl)) (by decide) (fun K hK => ?_)
    refine zC Try.func48 #[.slice A1 l1.length c1] ?_
    with_reducible refine (impl_sum.calls k _ _ l1 t332 _ ?side1 ?side2 A9.out).mono ?_
    (case side1 => repeat (first | exact (Kd.C_below HR1.out (by repeat (first | (with_reducible first | exact HB.out | apply below_alloc | apply pw_below_drewN | apply below_drew1 | refine below_set ?_ GE329.out) | exact HB.out))) | (with_reducible refine Kd.C_alloc ?_ _) | (with_reducible refine Kd.C_drewN ?_ _) | (with_reducible refine Kd.C_drew ?_)))
    (case side2 => exact HC1.out)
    rintro e w' ⟨rfl, ⟨nd, rfl⟩⟩
    refine ⟨_, rfl, ?_⟩
    refine hK.out _ _ ⟨(blk_cell BK329.out 0).trans rfl, (blk_cell BK329.out 1).trans rfl⟩ (fun hHeld => ?_)
    clear hK K
    refine norm_ (a' := ?_) ?_ ?_
    rotate_left
    ·show Act.put _ (some 17) _ = _
     simp only [Act.put, List.setIfInBounds_toArray, List.set_cons_zero, List.set_cons_succ, i64_w, i32_w]
     rfl
    refine one_ (i := 13) (N := some 20) zB14_12 rfl rfl (one_of HT_.out (by kernel_rfl)) (by decide) (fun K hK => ?_)
    refine zC Try.func42 #[.slice A0_1 l0_1.length c0_1] ?_
    with_reducible refine (slices_Concat_int_int.calls k _ _ l0_1 t333 _ ?side1 ?side2 A10.out).mono ?_
    (case side1 => repeat (first | exact (Kd.C_below HR0_1.out (by repeat (first | (with_reducible first | exact HB.out | apply below_alloc | apply pw_below_drewN | apply below_drew1 | refine below_set ?_ GE329.out) | exact HB.out))) | (with_reducible refine Kd.C_alloc ?_ _) | (with_reducible refine Kd.C_drewN ?_ _) | (with_reducible refine Kd.C_drew ?_)))
    (case side2 => exact HC0_1.out)
    rintro e w13 ⟨v334, rfl, ho0, hb⟩
    refine ⟨_, rfl, ?_⟩
    have n0_ := Aside0.mk (Kd.R_lower ho0 (below_size (by repeat (first | (with_reducible first | exact HB.out | apply below_alloc | apply pw_below_drewN | apply below_drew1 | refine below_set ?_ GE329.out) | exact HB.out))))
    have n1_ := Aside0.mk (blk_below (g := gb329) (o := .cells #[.slice A0_0 l0_0.length c0_0, .slice A0_1 l0_1.length c0_1] 26 (0, 0)) (by (with_reducible repeat (first | refine blk_drewN ?_ _ | refine blk_drew ?_ | refine blk_alloc ?_ _)); exact BK329.out) hb)
    have n2_ := Aside0.mk (below_step (by repeat (first | (with_reducible first | exact HB.out | apply below_alloc | apply pw_below_drewN | apply below_drew1 | refine below_set ?_ GE329.out) | exact HB.out)) hb)
    clear BK329
    clear HB
    have HO335 := n0_
    have BK329 := n1_
    have HB := n2_
    clear n0_ n1_ n2_
    (try clear hb)
    (try clear hb2)
    (try clear hk)
    (try clear hi)
    (try clear ho0)
    obtain ⟨Ao14, co14, eo14⟩ := Kd.R_slice HO335.out
    (first | subst eo14 | (injection eo14 with f1_ f2_ f3_; have f4_ := f1_.symm; have f5_ := f3_.symm; clear f1_ f2_ f3_; subst f4_; subst f5_))
    refine hK.out _ _ ⟨(blk_cell BK329.out 0).trans rfl, (blk_cell BK329.out 1).trans rfl⟩ (fun hHeld => ?_)
    clear hK K
    refine norm_ (a' := ?_) ?_ ?_
    rotate_left
    ·show Act.put _ (some 20) _ = _
     simp only [Act.put, List.setIfInBounds_toArray, List.set_cons_zero, List.set_cons_succ, i64_w, i32_w]
     rfl
    refine zP (i := 14) (N := some 21) zB14_13 (any_of HT_.out (by kernel_rfl)) ?_
    refine zP (i := 15) (N := some 22) zB14_14 (any_of HT_.out (by kernel_rfl)) ?_
    refine zP (i := 16) (N := some 23) zB14_15 (any_of HT_.out (by kernel_rfl)) ?_
    refine done_ (done_of HT_.out (by kernel_rfl)) ?_
    try go_wp2
    go_meet
    case rel => exact ⟨_, ((t332 != (t333.length : Int))), (by first | rfl | (simp; done) | (simp [*]; done)), H', ⟨by first | omega | exact Nat.le_refl _⟩, ⟨by (with_reducible repeat (first | refine blk_drewN ?_ _ | refine blk_drew ?_ | refine blk_alloc ?_ _)); exact BK329.out⟩, ⟨by repeat (first | (with_reducible first | exact HB.out | apply below_alloc | apply pw_below_drewN | apply below_drew1 | refine below_set ?_ GE329.out) | exact HB.out)⟩⟩
   ·replace c8 := Bool.eq_false_iff.mpr c8
    subst c8
    have H1 : (impl_IsCompatible.j0 k l0_0 l0_1 l1 true) = some r := by rw [if_neg (show ¬ (false = true) by decide)] at H; exact H
    clear H
    have H := H1
    clear H1
    have H' := Aside0.mk H
    clear H
    try go_wp2
    have n0_ := Aside0.mk (blk_drew BK329.out)
    have n1_ := Aside0.mk (below_drew1 HB.out)
    clear BK329
    clear HB
    have BK329 := n0_
    have HB := n1_
    clear n0_ n1_
    refine start_ (n := 17) (S := fun w' => w'.cell? ⟨gb329, 0, none⟩ = some (.slice A0_0 l0_0.length c0_0) ∧ w'.cell? ⟨gb329, 1, none⟩ = some (.slice A0_1 l0_1.length c0_1)) (ds := []) zB14_0 (by kernel_rfl) rfl rfl ⟨(blk_cell BK329.out 0).trans rfl, (blk_cell BK329.out 1).trans rfl⟩ (fun hHeld => ?_); refine with_tabW impl_IsCompatible.tab1 impl_IsCompatible.bits1 (fun HT_ HW_ => ?_)
    generalize w4.drew = w15 at BK329 HB hHeld ⊢
    refine zT2 (i := 0) (N := some 7) zB14_1 (take_ofW HT_.out HW_.out (by kernel_rfl)) hHeld ?_
    refine one_ (i := 1) (N := some 8) zB14_2 rfl rfl (one_of HT_.out (by kernel_rfl)) (by decide) (fun K hK => ?_)
    refine zC Try.func36 #[.agg #[.slice A0_0 l0_0.length c0_0, .slice A0_1 l0_1.length c0_1]] ?_
    with_reducible refine (impl_IsStandard.calls k _ _ l0_0 _ _ l0_1 true _ ?side1 ?side2 ?side3 ?side4 A5.out).mono ?_
    (case side1 => repeat (first | exact (Kd.C_below HR0_0.out HB.out) | (with_reducible refine Kd.C_alloc ?_ _) | (with_reducible refine Kd.C_drewN ?_ _) | (with_reducible refine Kd.C_drew ?_)))
    (case side2 => exact HC0_0.out)
    (case side3 => repeat (first | exact (Kd.C_below HR0_1.out HB.out) | (with_reducible refine Kd.C_alloc ?_ _) | (with_reducible refine Kd.C_drewN ?_ _) | (with_reducible refine Kd.C_drew ?_)))
    (case side4 => exact HC0_1.out)
    rintro e w16 ⟨rfl, hb⟩
    refine ⟨_, rfl, ?_⟩
    have n0_ := Aside0.mk (blk_below (g := gb329) (o := .cells #[.slice A0_0 l0_0.length c0_0, .slice A0_1 l0_1.length c0_1] 26 (0, 0)) (by (with_reducible repeat (first | refine blk_drewN ?_ _ | refine blk_drew ?_ | refine blk_alloc ?_ _)); exact BK329.out) hb)
    have n1_ := Aside0.mk (below_step (by repeat (first | (with_reducible first | exact HB.out | apply below_alloc | apply pw_below_drewN | apply below_drew1 | refine below_set ?_ GE329.out) | exact HB.out)) hb)
    clear BK329
    clear HB
    have BK329 := n0_
    have HB := n1_
    clear n0_ n1_
    (try clear hb)
    (try clear hb2)
    (try clear hk)
    (try clear hi)
    refine hK.out _ _ ⟨(blk_cell BK329.out 0).trans rfl, (blk_cell BK329.out 1).trans rfl⟩ (fun hHeld => ?_)
    clear hK K
    refine norm_ (a' := ?_) ?_ ?_
    rotate_left
    ·show Act.put _ (some 8) _ = _
     simp only [Act.put, List.setIfInBounds_toArray, List.set_cons_zero, List.set_cons_succ, i64_w, i32_w]
     rfl
    refine zP (i := 2) (N := some 9) zB14_3 (any_of HT_.out (by kernel_rfl)) ?_
    refine zP (i := 3) (N := some 10) zB14_4 (any_of HT_.out (by kernel_rfl)) ?_
    refine zP (i := 4) (N := some 11) zB14_5 (any_of HT_.out (by kernel_rfl)) ?_
    refine one_ (i := 5) (N := some 12) zB14_6 rfl rfl (one_of HT_.out (by kernel_rfl)) (by decide) (fun K hK => ?_)
    refine zC Try.func47 #[.slice A1 l1.length c1] ?_
    with_reducible refine (impl_isWeight.calls _ _ l1 false _ ?side1 ?side2 A7.out).mono ?_
    (case side1 => repeat (first | exact (Kd.C_below HR1.out HB.out) | (with_reducible refine Kd.C_alloc ?_ _) | (with_reducible refine Kd.C_drewN ?_ _) | (with_reducible refine Kd.C_drew ?_)))
    (case side2 => exact HC1.out)
    rintro e w' ⟨rfl, ⟨nd, rfl⟩⟩
    refine ⟨_, rfl, ?_⟩
    refine hK.out _ _ ⟨(blk_cell BK329.out 0).trans rfl, (blk_cell BK329.out 1).trans rfl⟩ (fun hHeld => ?_)
    clear hK K
    refine norm_ (a' := ?_) ?_ ?_
    rotate_left
    ·show Act.put _ (some 12) _ = _
     simp only [Act.put, List.setIfInBounds_toArray, List.set_cons_zero, List.set_cons_succ, i64_w, i32_w]
     rfl
    refine zP (i := 6) (N := some 13) zB14_7 (any_of HT_.out (by kernel_rfl)) ?_
    refine zP (i := 7) (N := some 14) zB14_8 (any_of HT_.out (by kernel_rfl)) ?_
    refine zP (i := 8) (N := some 15) zB14_9 (any_of HT_.out (by kernel_rfl)) ?_
    refine zU (i := 9) (N := some 16) zB14_10 (any_of HT_.out (by kernel_rfl)) ?_
    refine zU (i := 10) (N := some 17) zB14_16 (any_of HT_.out (by kernel_rfl)) ?_
    refine zU (i := 11) (N := some 18) zB14_17 (any_of HT_.out (by kernel_rfl)) ?_
    refine zU (i := 12) (N := some 19) zB14_11 (any_of HT_.out (by kernel_rfl)) ?_
    refine zU (i := 13) (N := some 20) zB14_12 (any_of HT_.out (by kernel_rfl)) ?_
    refine zU (i := 14) (N := some 21) zB14_13 (any_of HT_.out (by kernel_rfl)) ?_
    refine zU (i := 15) (N := some 22) zB14_14 (any_of HT_.out (by kernel_rfl)) ?_
    refine zP (i := 16) (N := some 23) zB14_15 (any_of HT_.out (by kernel_rfl)) ?_
    refine done_ (done_of HT_.out (by kernel_rfl)) ?_
    try go_wp2
    go_meet
    case rel => exact ⟨_, (true), (by first | rfl | (simp; done) | (simp [*]; done)), H', ⟨by first | omega | exact Nat.le_refl _⟩, ⟨by (with_reducible repeat (first | refine blk_drewN ?_ _ | refine blk_drew ?_ | refine blk_alloc ?_ _)); exact BK329.out⟩, ⟨by repeat (first | (with_reducible first | exact HB.out | apply below_alloc | apply pw_below_drewN | apply below_drew1 | refine below_set ?_ GE329.out) | exact HB.out)⟩⟩
  ·replace c6 := Bool.eq_false_iff.mpr c6
   subst c6
   have H1 : (impl_IsCompatible.j0 k l0_0 l0_1 l1 true) = some r := by rw [if_neg (show ¬ (false = true) by decide)] at H; exact H
   clear H
   have H := H1
   clear H1
   have H' := Aside0.mk H
   clear H
   try go_wp2
   have n0_ := Aside0.mk (blk_drew BK329.out)
   have n1_ := Aside0.mk (below_drew1 HB.out)
   clear BK329
   clear HB
   have BK329 := n0_
   have HB := n1_
   clear n0_ n1_
   refine start_ (n := 17) (S := fun w' => w'.cell? ⟨gb329, 0, none⟩ = some (.slice A0_0 l0_0.length c0_0) ∧ w'.cell? ⟨gb329, 1, none⟩ = some (.slice A0_1 l0_1.length c0_1)) (ds := []) zB14_0 (by kernel_rfl) rfl rfl ⟨(blk_cell BK329.out 0).trans rfl, (blk_cell BK329.out 1).trans rfl⟩ (fun hHeld => ?_); refine with_tabW impl_IsCompatible.tab1 impl_IsCompatible.bits1 (fun HT_ HW_ => ?_)
   generalize w4.drew = w17 at BK329 HB hHeld ⊢
   refine zT2 (i := 0) (N := some 7) zB14_1 (take_ofW HT_.out HW_.out (by kernel_rfl)) hHeld ?_
   refine one_ (i := 1) (N := some 8) zB14_2 rfl rfl (one_of HT_.out (by kernel_rfl)) (by decide) (fun K hK => ?_)
   refine zC Try.func36 #[.agg #[.slice A0_0 l0_0.length c0_0, .slice A0_1 l0_1.length c0_1]] ?_
   with_reducible refine (impl_IsStandard.calls k _ _ l0_0 _ _ l0_1 false _ ?side1 ?side2 ?side3 ?side4 A5.out).mono ?_
   (case side1 => repeat (first | exact (Kd.C_below HR0_0.out HB.out) | (with_reducible refine Kd.C_alloc ?_ _) | (with_reducible refine Kd.C_drewN ?_ _) | (with_reducible refine Kd.C_drew ?_)))
   (case side2 => exact HC0_0.out)
   (case side3 => repeat (first | exact (Kd.C_below HR0_1.out HB.out) | (with_reducible refine Kd.C_alloc ?_ _) | (with_reducible refine Kd.C_drewN ?_ _) | (with_reducible refine Kd.C_drew ?_)))
   (case side4 => exact HC0_1.out)
   rintro e w18 ⟨rfl, hb⟩
   refine ⟨_, rfl, ?_⟩
   have n0_ := Aside0.mk (blk_below (g := gb329) (o := .cells #[.slice A0_0 l0_0.length c0_0, .slice A0_1 l0_1.length c0_1] 26 (0, 0)) (by (with_reducible repeat (first | refine blk_drewN ?_ _ | refine blk_drew ?_ | refine blk_alloc ?_ _)); exact BK329.out) hb)
   have n1_ := Aside0.mk (below_step (by repeat (first | (with_reducible first | exact HB.out | apply below_alloc | apply pw_below_drewN | apply below_drew1 | refine below_set ?_ GE329.out) | exact HB.out)) hb)
   clear BK329
   clear HB
   have BK329 := n0_
   have HB := n1_
   clear n0_ n1_
   (try clear hb)
   (try clear hb2)
   (try clear hk)
   (try clear hi)
   refine hK.out _ _ ⟨(blk_cell BK329.out 0).trans rfl, (blk_cell BK329.out 1).trans rfl⟩ (fun hHeld => ?_)
   clear hK K
   refine norm_ (a' := ?_) ?_ ?_
   rotate_left
   ·show Act.put _ (some 8) _ = _
    simp only [Act.put, List.setIfInBounds_toArray, List.set_cons_zero, List.set_cons_succ, i64_w, i32_w]
    rfl
   refine zP (i := 2) (N := some 9) zB14_3 (any_of HT_.out (by kernel_rfl)) ?_
   refine zP (i := 3) (N := some 10) zB14_4 (any_of HT_.out (by kernel_rfl)) ?_
   refine zU (i := 4) (N := some 11) zB14_5 (any_of HT_.out (by kernel_rfl)) ?_
   refine zU (i := 5) (N := some 12) zB14_6 (any_of HT_.out (by kernel_rfl)) ?_
   refine zU (i := 6) (N := some 13) zB14_7 (any_of HT_.out (by kernel_rfl)) ?_
   refine zP (i := 7) (N := some 14) zB14_8 (any_of HT_.out (by kernel_rfl)) ?_
   refine zP (i := 8) (N := some 15) zB14_9 (any_of HT_.out (by kernel_rfl)) ?_
   refine zU (i := 9) (N := some 16) zB14_10 (any_of HT_.out (by kernel_rfl)) ?_
   refine zU (i := 10) (N := some 17) zB14_16 (any_of HT_.out (by kernel_rfl)) ?_
   refine zU (i := 11) (N := some 18) zB14_17 (any_of HT_.out (by kernel_rfl)) ?_
   refine zU (i := 12) (N := some 19) zB14_11 (any_of HT_.out (by kernel_rfl)) ?_
   refine zU (i := 13) (N := some 20) zB14_12 (any_of HT_.out (by kernel_rfl)) ?_
   refine zU (i := 14) (N := some 21) zB14_13 (any_of HT_.out (by kernel_rfl)) ?_
   refine zU (i := 15) (N := some 22) zB14_14 (any_of HT_.out (by kernel_rfl)) ?_
   refine zP (i := 16) (N := some 23) zB14_15 (any_of HT_.out (by kernel_rfl)) ?_
   refine done_ (done_of HT_.out (by kernel_rfl)) ?_
   try go_wp2
   go_meet
   case rel => exact ⟨_, (true), (by first | rfl | (simp; done) | (simp [*]; done)), H', ⟨by first | omega | exact Nat.le_refl _⟩, ⟨by (with_reducible repeat (first | refine blk_drewN ?_ _ | refine blk_drew ?_ | refine blk_alloc ?_ _)); exact BK329.out⟩, ⟨by repeat (first | (with_reducible first | exact HB.out | apply below_alloc | apply pw_below_drewN | apply below_drew1 | refine below_set ?_ GE329.out) | exact HB.out)⟩⟩
 case rest =>
  clear HC3
  try clear c1
  try clear c2
  try clear p2
  try clear c3
  try clear c4
  try clear c6
  try clear c8
  obtain ⟨kq, x23_2, rfl, HA, HJ2, BK329, HB⟩ := hcut
  have H := HA.out
  clear HA
  unfold impl_IsCompatible.j0 at H
  by_cases c19 : x23_2 = true
  ·subst c19
   rw [if_pos rfl] at H
   obtain rfl := Option.some.inj H
   clear H
   go_wp2
   go_ret
   exact ⟨by first | rfl | (simp; done), (by repeat (first | (with_reducible first | exact HB.out | apply below_alloc | apply pw_below_drewN | apply below_drew1 | refine below_set ?_ GE329.out) | exact HB.out))⟩
  ·replace c19 := Bool.eq_false_iff.mpr c19
   subst c19
   rw [if_neg (show ¬ (false = true) by decide)] at H
   obtain ⟨ds, AD, H⟩ := Option.bind_eq_some_iff.mp H
   have HD := Aside0.mk AD
   have HC := Aside0.mk H
   clear AD H
   have BW := Aside0.mk (show Below w.heap.size w wc from (by repeat (first | (with_reducible first | exact HB.out | apply below_alloc | apply pw_below_drewN | apply below_drew1 | refine below_set ?_ GE329.out) | exact HB.out)))
   have hz2_0 : wc.cell? ⟨gb329, 0, none⟩ = some (.slice A0_0 l0_0.length c0_0) := (blk_cell BK329.out 0).trans rfl
   have hz2_1 : wc.cell? ⟨gb329, 1, none⟩ = some (.slice A0_1 l0_1.length c0_1) := (blk_cell BK329.out 1).trans rfl
   go_wp2_with (go_at_call 19; refine (impl_DescentsOf.calls kq A0_0 c0_0 l0_0 A0_1 c0_1 l0_1 ds wc (Kd.C_below HR0_0.out BW.out) HC0_0.out (Kd.C_below HR0_1.out BW.out) HC0_1.out HD.out).mono ?_; rintro e wd ⟨vd, rfl, hR, hB⟩; obtain ⟨Ad, cd, rfl⟩ := Kd.R_slice hR; have RD := Aside0.mk (Kd.R_reads' hR).2.2; have BD := Aside0.mk (below_then BW.out BW.out.size hB); clear hR hB)
   clear hz2_0 hz2_1
   go_loopg [27] ds.length (fun gg s27 wr => ∃ kk : Nat, kk ≤ ds.length ∧ ds.length - kk ≤ gg ∧ s27 = .int .i64 kk ∧ Aside0 (Below wd.heap.size wd wr) ∧ Aside0 (compatO (endsAt kq l1) (ds.drop kk) = some r))
   case atStart => exact ⟨0, Nat.zero_le _, by omega, rfl, ⟨Below.refl _ _⟩, ⟨HC.out⟩⟩
   case round =>
    obtain ⟨kk, hkk, hg, rfl, BR, A⟩ := hrel
    have hlen : ds.length ≤ 9223372036854775807 := RD.out.2.1
    by_cases hlt : kk < ds.length
    ·have hltz : (kk : Int) < (ds.length : Int) := by omega
     obtain ⟨ad, e1, hx⟩ := Kd.at_int (Kd.C_below RD.out BR.out) (kk : Int) (by omega) hltz
     cases e1
     rw [Int.toNat_natCast] at hx
     have ex : rd ds (kk : Int) = ds[kk] := by unfold rd; rw [Int.toNat_natCast, List.getD_eq_getElem?_getD, List.getElem?_eq_getElem hlt]; rfl
     have hA := A.out
     rw [List.drop_eq_getElem_cons hlt, ← ex] at hA
     simp only [compatO] at hA
     obtain ⟨b, hb, hA⟩ := Option.bind_eq_some_iff.mp hA
     obtain ⟨ss, hss, hb⟩ := Option.bind_eq_some_iff.mp hb
     have hb := Option.some.inj hb
     generalize rd ds (kk : Int) = d at hx hb
     clear ex
     have SS := Aside0.mk hss
     have HA' := Aside0.mk hA
     have HBB := Aside0.mk hb
     have BX := Aside0.mk (below_then BD.out BD.out.size BR.out)
     clear hss hA hb
     obtain ⟨w6, hw6⟩ : ∃ w6, w6 = wr.alloc (.cells #[.int .i64 d] 3 (0, 0)) := ⟨_, rfl⟩
     have X6 := Aside0.mk (show w6.heap[wr.heap.size]? = some (.cells #[.int .i64 d] 3 (0, 0)) by rw [hw6]; exact blk_new wr _)
     have L6 := Aside0.mk (show Below wr.heap.size wr w6 by rw [hw6]; exact below_alloc (Below.refl _ _) _)
     cases b with
     | true =>
      rw [if_pos rfl] at HA'
      go_wp2_with (first
       | (go_at_call 50; rw [← hw6]; refine (impl_sums.calls kq A1 c1 l1 ss w6 (Kd.C_below HR1.out (below_then BX.out BX.out.size L6.out)) HC1.out SS.out).mono ?_; rintro e w7 ⟨v7, rfl, hR7, hB7⟩; obtain ⟨A7, c7, rfl⟩ := Kd.R_slice hR7; have R7 := Aside0.mk (Kd.R_reads' hR7).2.2; have B7 := Aside0.mk hB7; have X7 := Aside0.mk (blk_below X6.out hB7); clear hR7 hB7)
       | (go_at_call 49; refine (containsFunc_pred 51 #[.pointer (some ⟨wr.heap.size, 0, none⟩)] (fun n => decide (n = d)) (enters_of Try.func51 (by kernel_rfl) rfl) A7 c7 ss w7 (fun W x hW => (isCompat_lit x d wr.heap.size W (blk_below X7.out hW.below)).mono fun e w' h => ⟨h.1, h.2 ▸ Drawn0.refl _⟩) R7.out).mono ?_; rw [HBB.out]; rintro e w8 ⟨rfl, hd8⟩; have D8 := Aside0.mk hd8; clear hd8))
      go_roundg (ds.length - (kk + 1))
      case measure => omega
      case rel => exact ⟨kk + 1, by omega, by omega, by go_num, ⟨below_then BR.out BR.out.size (below_then L6.out L6.out.size (below_then B7.out B7.out.size D8.out.below))⟩, ⟨HA'.out⟩⟩
     | false =>
      rw [if_neg (by decide)] at HA'
      have er := Option.some.inj HA'.out
      subst er
      go_wp2_with (first
       | (go_at_call 50; rw [← hw6]; refine (impl_sums.calls kq A1 c1 l1 ss w6 (Kd.C_below HR1.out (below_then BX.out BX.out.size L6.out)) HC1.out SS.out).mono ?_; rintro e w7 ⟨v7, rfl, hR7, hB7⟩; obtain ⟨A7, c7, rfl⟩ := Kd.R_slice hR7; have R7 := Aside0.mk (Kd.R_reads' hR7).2.2; have B7 := Aside0.mk hB7; have X7 := Aside0.mk (blk_below X6.out hB7); clear hR7 hB7)
       | (go_at_call 49; refine (containsFunc_pred 51 #[.pointer (some ⟨wr.heap.size, 0, none⟩)] (fun n => decide (n = d)) (enters_of Try.func51 (by kernel_rfl) rfl) A7 c7 ss w7 (fun W x hW => (isCompat_lit x d wr.heap.size W (blk_below X7.out hW.below)).mono fun e w' h => ⟨h.1, h.2 ▸ Drawn0.refl _⟩) R7.out).mono ?_; rw [HBB.out]; rintro e w8 ⟨rfl, hd8⟩; have D8 := Aside0.mk hd8; clear hd8))
      go_ret
      exact ⟨by simp, below_then BX.out BX.out.size (below_then L6.out L6.out.size (below_then B7.out B7.out.size D8.out.below))⟩
    ·have hltz : ¬ (kk : Int) < (ds.length : Int) := by omega
     have : kk = ds.length := by omega
     subst this
     have hA := A.out
     rw [List.drop_length] at hA
     have er := Option.some.inj hA
     subst er
     clear hA
     go_wp2
     go_ret
     exact ⟨by simp, below_then BD.out BD.out.size BR.out⟩

end Go.Proofs.Ytdcdndfgdmcomaa.F
