/- For each Go function named below: the plain Lean function that it computes, and that its call returns just that; conditions: those that each theorem names. -/
import Derived.Test.YtpandocpclecgaaGreatDoorF0
import Derived.Test.YtpandocpclecgaaGreatDoorF1
import Derived.Test.YtpandocpclecgaaGreatDoorF2
import Derived.Test.YtpandocpclecgaaGreatDoorF6
namespace Go.Proofs.YtpandocpclecgaaGreatDoor.F
open Go.RowKit Go.Proofs.YtpandocpclecgaaGreatDoorW.PrintWords Go.Proofs.YtpandocpclecgaaGreatDoorW.PrintLast Go.Proofs.YtpandocpclecgaaGreatDoorW.PrintMore
attribute [local go_sem] max2_int min2_int max_two min_two max_three min_three max_four min_four   -- for this text's walks alone
set_option linter.unusedVariables false
set_option linter.unusedSimpArgs false

mutual
def spec_l18Highest.l0 : Nat → List Int → Int → List Int → Int → Int → List (List Int) → Option (List Int × (List (List Int)) × Int × Int)
 | 0, _, _, _, _, _, _ => none
 | k + 1, x3, x5, x1000, x1001, x1002, x380001 => if x5 < (x3.length : Int) then (spec_l18Highest.l1 k x3 x5 (([] : List Int)) 0 x1000 x1001 x1002 x380001) else (some (([] : List Int), x380001, x1001, x1002))
def spec_l18Highest.l1 : Nat → List Int → Int → List Int → Int → List Int → Int → Int → List (List Int) → Option (List Int × (List (List Int)) × Int × Int)
 | 0, _, _, _, _, _, _, _, _ => none
 | k + 1, x3, x5, x6, x7, x1000, x1001, x1002, x380001 => if 0 ≤ x5 then (if x5 < (x3.length : Int) then (if x7 < (rd x3 x5) then (if x6.length < 17592186044416 then (spec_l18Highest.l1 k x3 x5 (x6 ++ [wrap64 (x5 + 1)]) (wrap64 (x7 + 1)) x1000 x1001 x1002 x380001) else (none)) else (if x380001.length < 5864062014805 then (spec_l18Highest.l0 k x3 (wrap64 (x5 + 1)) x1000 x1001 x1002 (x380001 ++ [x6])) else (none))) else (none)) else (none)
end
def spec_l18Highest.f (k : Nat) (s0_0 : List Int) (s0_1 : Int) (s0_2 : Int) : Option (List Int × (List (List Int)) × Int × Int) := (spec_l2Draw.f k s0_0 s0_1 s0_2 8).bind fun bt374 => (spec_l18Highest.l0 k bt374.1 0 s0_0 bt374.2.1 bt374.2.2 ([] : List (List Int)))
set_option maxHeartbeats 8000000 in
set_option maxRecDepth 100000 in
theorem spec_l18Highest.calls (k : Nat) (g : Nat) (s0_0 : List Int) (s0_1 : Int) (s0_2 : Int) (r1 : List Int) (r2 : List (List Int)) (r3 : Int) (r4 : Int) (w0 w : World) (hI : IsS67 w0 w g s0_0 s0_1 s0_2) (hB : Below w0.heap.size w0 w) (h : spec_l18Highest.f k s0_0 s0_1 s0_2 = some (r1, r2, r3, r4)) :
  Calls Tryz.prog 35 #[.pointer (some ⟨g, 0, none⟩)] w fun e w' => ∃ v0_ v1_ : Value, e = .returned (.agg #[v0_, v1_]) ∧ Kd.R (Kd.int .i64) 3 w' w.heap.size (fun _ => True) v0_ r1 ∧ Kd.S (Kd.slice 3 (Kd.int .i64)) 24 w' w.heap.size (fun k_ => some k_ ≠ (v0_ : Value).ownBlock) v1_ r2 ∧ IsS67 w0 w' g s0_0 r3 r4 ∧ Below w0.heap.size w0 w' ∧ KeepBut w w' g none := by
 have hu29 := Tryz.underlying29
 have HI0 := Aside0.mk hI
 have HK := Aside0.mk (KeepBut.refl w g none)
 have HL := Aside0.mk hB.size
 clear hI
 have HW0 := Aside0.mk hB.size
 have HB := Aside0.mk hB
 clear hB
 have H : ((spec_l2Draw.f k s0_0 s0_1 s0_2 8).bind fun bt374 => (spec_l18Highest.l0 k bt374.1 0 s0_0 bt374.2.1 bt374.2.2 ([] : List (List Int)))) = some (r1, r2, r3, r4) := h
 clear h
 replace H := Option.bind_eq_some_iff.mp H
 obtain ⟨⟨t374, t377, t378⟩, A20, H⟩ := H
 replace H : (spec_l18Highest.l0 k t374 0 s0_0 t377 t378 ([] : List (List Int))) = some (r1, r2, r3, r4) := H
 have A2 := Aside0.mk A20
 clear A20
 have H' := Aside0.mk H
 clear H
 go_enter Tryz.func35, Tryz.ntmps35
 go_wp2_with (first | ((with_reducible refine gate_dst (N := 2) rfl ?_); refine zX (N := 2) (cs := #[.slice none 0 0, .slice none 0 0]) (t := 29) ?_; intro gb373 hg w3 hbox hb; have n0_ := Aside0.mk (IsS67.below (zI67 HI0.out) hb); have n1_ := Aside0.mk (KeepBut.trans (zK HK.out) (KeepBut.of_below hb g none) (.inl rfl)); have n2_ := Aside0.mk (below_step (zB1 HB.out (IsS67.ge HI0.out)) hb); have n3_ := Aside0.mk (hbox); have n4_ := Aside0.mk ((by rw [hg]; exact (keep_size (w := w) (g := g) (row := none) (zK HK.out)) : w.heap.size ≤ gb373)); have n5_ := Aside0.mk ((Nat.le_trans HW0.out (by rw [hg]; exact (keep_size (w := w) (g := g) (row := none) (zK HK.out)) : w.heap.size ≤ gb373) : w0.heap.size ≤ gb373)); have n6_ := Aside0.mk ((by rw [hg]; exact Nat.ne_of_lt (IsS67.lt (show IsS67 w0 _ g s0_0 s0_1 s0_2 from zI67 HI0.out)) : g ≠ gb373)); have n7_ := Aside0.mk ((by rw [hg]; exact Nat.ne_of_gt (IsS67.lt (show IsS67 w0 _ g s0_0 s0_1 s0_2 from zI67 HI0.out)) : gb373 ≠ g)); clear HI0; clear HK; clear HB; have HI0 := n0_; have HK := n1_; have HB := n2_; have BK373 := n3_; have GW373 := n4_; have GE373 := n5_; have NB0_373 := n6_; have NB373_0 := n7_; clear n0_ n1_ n2_ n3_ n4_ n5_ n6_ n7_; clear hb hbox hg) | ((with_reducible refine gate_callee (f := 55) rfl ?_); refine zG (some 9) Tryz.func55 #[.pointer (some ⟨g, 0, none⟩), .int .i64 8] ?_; (with_reducible refine (spec_l2Draw.calls k g s0_0 s0_1 s0_2 8 t374 t377 t378 w0 _ ?side1 ?side2 A2.out).mono ?_); (case side1 => exact zI671 HI0.out NB0_373.out); (case side2 => exact zB2 HB.out (IsS67.ge HI0.out) GE373.out); rintro e w4 ⟨v375, rfl, ho0, hi, hb, hk⟩; refine ⟨_, rfl, ?_⟩; have n0_ := Aside0.mk (KeepBut.blk hk (g' := gb373) (o := .cells #[.slice none 0 0, .slice none 0 0] 29 (0, 0)) (zH BK373.out) NB373_0.out (by simp)); have n1_ := Aside0.mk (Kd.R_lower ho0 (keep_size (w := w) (g := g) (row := none) (zK1 HK.out GW373.out))); have n2_ := Aside0.mk (KeepBut.trans (zK1 HK.out GW373.out) hk (.inl rfl)); have n3_ := Aside0.mk (hb); have n4_ := Aside0.mk (hi); clear BK373; clear HK; clear HB; clear HI0; have BK373 := n0_; have HO376 := n1_; have HK := n2_; have HB := n3_; have HI0 := n4_; clear n0_ n1_ n2_ n3_ n4_; (try clear hb); (try clear hb2); (try clear hk); (try clear hi); (try clear ho0)) | ((with_reducible refine gate_dst (N := 4) rfl ?_); refine zX (N := 4) (cs := #[.slice none 0 0, .slice none 0 0]) (t := 29) ?_; intro gb379 hg w5 hbox hb; have n0_ := Aside0.mk (Kd.R_below (zR HO376.out) hb); have n1_ := Aside0.mk (IsS67.below (zI671 HI0.out NB0_373.out) hb); have n2_ := Aside0.mk (blk_below (g := gb373) (o := .cells #[.slice none 0 0, .slice none 0 0] 29 (0, 0)) (zH BK373.out) hb); have n3_ := Aside0.mk (KeepBut.trans (zK1 HK.out GW373.out) (KeepBut.of_below hb g none) (.inl rfl)); have n4_ := Aside0.mk (below_step (zB2 HB.out (IsS67.ge HI0.out) GE373.out) hb); have n5_ := Aside0.mk (hbox); have n6_ := Aside0.mk ((by rw [hg]; exact (keep_size (w := w) (g := g) (row := none) (zK1 HK.out GW373.out)) : w.heap.size ≤ gb379)); have n7_ := Aside0.mk ((Nat.le_trans HW0.out (by rw [hg]; exact (keep_size (w := w) (g := g) (row := none) (zK1 HK.out GW373.out)) : w.heap.size ≤ gb379) : w0.heap.size ≤ gb379)); have n8_ := Aside0.mk ((by rw [hg]; exact Nat.ne_of_lt (blk_lt (g := gb373) (o := .cells #[.slice none 0 0, .slice none 0 0] 29 (0, 0)) (zH BK373.out)) : gb373 ≠ gb379)); have n9_ := Aside0.mk ((by rw [hg]; exact Nat.ne_of_gt (blk_lt (g := gb373) (o := .cells #[.slice none 0 0, .slice none 0 0] 29 (0, 0)) (zH BK373.out)) : gb379 ≠ gb373)); have n10_ := Aside0.mk ((by rw [hg]; exact Nat.ne_of_lt (IsS67.lt (show IsS67 w0 _ g s0_0 t377 t378 from zI671 HI0.out NB0_373.out)) : g ≠ gb379)); have n11_ := Aside0.mk ((by rw [hg]; exact Nat.ne_of_gt (IsS67.lt (show IsS67 w0 _ g s0_0 t377 t378 from zI671 HI0.out NB0_373.out)) : gb379 ≠ g)); clear HO376; clear HI0; clear BK373; clear HK; clear HB; have HO376 := n0_; have HI0 := n1_; have BK373 := n2_; have HK := n3_; have HB := n4_; have BK379 := n5_; have GW379 := n6_; have GE379 := n7_; have NB373_379 := n8_; have NB379_373 := n9_; have NB0_379 := n10_; have NB379_0 := n11_; clear n0_ n1_ n2_ n3_ n4_ n5_ n6_ n7_ n8_ n9_ n10_ n11_; clear hb hbox hg; have hnb6 := NB379_373.out; have hnc6 := NB373_379.out; have hnb7 := NB379_0.out; have hnc7 := NB0_379.out; have hcz8_0 : w5.cell? ⟨gb379, 0, none⟩ = some (.slice none 0 0) := (blk_cell BK379.out 0).trans rfl; have hcz8_1 : w5.cell? ⟨gb379, 1, none⟩ = some (.slice none 0 0) := (blk_cell BK379.out 1).trans rfl; have hfz8_0 := blk_frozen BK379.out 0; have hfz8_1 := blk_frozen BK379.out 1))
 go_loopg [5] k (fun kq v5 w' => ∃ (x5_1 : Int) (x380001_1 : List (List Int)) (u380001 : Value), v5 = .int .i64 x5_1 ∧ Aside0 (spec_l18Highest.l0 kq t374 x5_1 s0_0 t377 t378 x380001_1 = some (r1, r2, r3, r4)) ∧ Aside0 (kq ≤ k) ∧ Aside0 (Kd.R (Kd.int .i64) 3 w' w.heap.size (fun _ => True) v375 t374) ∧ Aside0 (Kd.S (Kd.slice 3 (Kd.int .i64)) 24 w' w.heap.size (fun k_ => some k_ ≠ (v375 : Value).ownBlock) u380001 x380001_1) ∧ Aside0 (w'.heap[gb373]? = some (.cells #[(.slice none 0 0), (.slice none 0 0)] 29 (0, 0))) ∧ Aside0 (w'.heap[gb379]? = some (.cells #[(.slice none 0 0), u380001] 29 (0, 0))) ∧ Aside0 (IsS67 w0 w' g s0_0 t377 t378) ∧ Aside0 (KeepBut w w' g none) ∧ Aside0 (Below w0.heap.size w0 w'))
 case atStart => exact ⟨(0), (([] : List (List Int))), (.slice none 0 0), zs, H', ⟨Nat.le_refl _⟩, ⟨zR (Kd.R_mono (Kd.R_far (p := ⟨gb379, 1, none⟩) (Kd.R_far (p := ⟨gb379, 0, none⟩) (Kd.R_types HO376.out BK379.out (by decide)) (fun _ hk => hk.2) (.slice none 0 0)) (fun _ hk => hk.2) (.slice none 0 0)) (fun _ hk => trivial))⟩, ⟨by first | exact Kd.S_nil _ _ _ _ _ | exact Kd.N_nil _ _ _ _ _ | exact Kd.V_nil _ _ _ _ _ | exact Kd.Q_nil _ _ _ _ _ | exact Kd.R_nil _ _ _ _ _⟩, ⟨by (with_reducible repeat (first | refine blk_drewN ?_ _ | refine blk_drew ?_ | refine blk_alloc ?_ _)); refine blk_far ?_ NB373_379.out _; (with_reducible repeat (first | refine blk_drewN ?_ _ | refine blk_drew ?_ | refine blk_alloc ?_ _)); refine blk_far ?_ NB373_379.out _; (with_reducible repeat (first | refine blk_drewN ?_ _ | refine blk_drew ?_ | refine blk_alloc ?_ _)); exact BK373.out⟩, ⟨by (with_reducible repeat (first | refine blk_drewN ?_ _ | refine blk_drew ?_ | refine blk_alloc ?_ _)); refine blk_put (cs := #[.slice none 0 0, .slice none 0 0]) ?_ 1 _ rfl; (with_reducible repeat (first | refine blk_drewN ?_ _ | refine blk_drew ?_ | refine blk_alloc ?_ _)); refine blk_put (cs := #[.slice none 0 0, .slice none 0 0]) ?_ 0 _ rfl; (with_reducible repeat (first | refine blk_drewN ?_ _ | refine blk_drew ?_ | refine blk_alloc ?_ _)); exact BK379.out⟩, ⟨zI672 HI0.out NB0_373.out NB0_379.out⟩, ⟨zK2 HK.out GW373.out GW379.out⟩, ⟨zB3 HB.out (IsS67.ge HI0.out) GE373.out GE379.out⟩⟩
 case round =>
  clear H'
  try clear p2
  try clear c3
  try clear c5
  try clear c6
  try clear c7
  try clear hcz8_0
  try clear hcz8_1
  try clear hfz8_0
  try clear hfz8_1
  obtain ⟨x5_1, x380001_1, u380001, rfl, HA, HK1, HO_3, HO_380001, BK373, BK379, HI0, HK, HB⟩ := hrel
  cases gk with
  | zero => exact absurd HA.out (by simp [spec_l18Highest.l0])
  | succ k1 =>
   have H := HA.out
   clear HA
   simp only [spec_l18Highest.l0] at H
   by_cases c9 : x5_1 < (t374.length : Int)
   ·rw [if_pos c9] at H
    have c9b0 : decide (x5_1 < (t374.length : Int)) = true := decide_eq_true c9
    clear c9
    obtain ⟨y380, hy380⟩ : ∃ y_ : List Int, y_ = (([] : List Int)) := ⟨_, rfl⟩
    replace H : (spec_l18Highest.l1 k1 t374 x5_1 y380 0 s0_0 t377 t378 x380001_1) = some (r1, r2, r3, r4) := zY hy380 H
    have Ny380 := Aside0.mk hy380
    clear hy380
    have H' := Aside0.mk H
    clear H
    obtain ⟨Ao10, co10, eo10⟩ := Kd.R_slice HO_3.out
    subst eo10
    go_wp2_with (first | ((with_reducible refine gate_dst (N := 17) rfl ?_); refine Kd.R_lit (Kd.int .i64) _ 3 ?hg (N := 17) ?hd (xs := ([] : List Int)) (inner := []) (ok := fun _ => True) (okp := fun _ => True) ?hr ?hp (fun _ hk => hk) trivial (Below.refl _ _) (Nat.le_refl _) (by simp) ?_; (case hd => rfl); (case hg => rfl); (case hr => first | (go_simp; done) | (go_simp; rfl)); (case hp => exact (Reps.none _ _)); intro v381 w11 ho12 hb hg_ hnew_; clear hg_ hnew_; (first | rw [← Ny380.out] at ho12 | (simp only [Int.reduceToNat] at ho12; rw [← Ny380.out] at ho12)); have n0_ := Aside0.mk (Kd.R_elder' (zR HO_3.out) (Kd.R_base ho12) hb); have n1_ := Aside0.mk (Kd.S_elder' (zS HO_380001.out) (Kd.R_base ho12) hb); have n2_ := Aside0.mk (Kd.R_lower (Kd.R_new' ho12 (Kd.R_lt (zR HO_3.out))) (keep_size (w := w) (g := g) (row := none) (zK2 HK.out GW373.out GW379.out))); have n3_ := Aside0.mk (blk_below (g := gb373) (o := .cells #[.slice none 0 0, .slice none 0 0] 29 (0, 0)) (zH BK373.out) hb); have n4_ := Aside0.mk (blk_below (g := gb379) (o := .cells #[.slice none 0 0, u380001] 29 (0, 0)) (zH BK379.out) hb); have n5_ := Aside0.mk (IsS67.below (zI672 HI0.out NB0_373.out NB0_379.out) hb); have n6_ := Aside0.mk (KeepBut.trans (zK2 HK.out GW373.out GW379.out) (KeepBut.of_below hb g none) (.inl rfl)); have n7_ := Aside0.mk (below_step (zB3 HB.out (IsS67.ge HI0.out) GE373.out GE379.out) hb); clear HO_3; clear HO_380001; clear BK373; clear BK379; clear HI0; clear HK; clear HB; have HO_3 := n0_; have HO_380001 := n1_; have HO382 := n2_; have BK373 := n3_; have BK379 := n4_; have HI0 := n5_; have HK := n6_; have HB := n7_; clear n0_ n1_ n2_ n3_ n4_ n5_ n6_ n7_; clear hb ho12))
    go_loopg [6, 7] k1 (fun kq v6 v7 w' => ∃ (x6_2 : List Int) (x7_2 : Int), v7 = .int .i64 x7_2 ∧ Aside0 (spec_l18Highest.l1 kq t374 x5_1 x6_2 x7_2 s0_0 t377 t378 x380001_1 = some (r1, r2, r3, r4)) ∧ Aside0 (kq ≤ k1) ∧ Aside0 (Kd.R (Kd.int .i64) 3 w' w.heap.size (fun k_ => some k_ ≠ (v6 : Value).ownBlock) (.slice Ao10 t374.length co10) t374) ∧ Aside0 (Kd.R (Kd.int .i64) 3 w' w.heap.size (fun k_ => some k_ ≠ ((.slice Ao10 t374.length co10) : Value).ownBlock) v6 x6_2) ∧ Aside0 (Kd.S (Kd.slice 3 (Kd.int .i64)) 24 w' w.heap.size (fun k_ => some k_ ≠ ((.slice Ao10 t374.length co10) : Value).ownBlock ∧ some k_ ≠ (v6 : Value).ownBlock) u380001 x380001_1) ∧ Aside0 (w'.heap[gb373]? = some (.cells #[(.slice none 0 0), (.slice none 0 0)] 29 (0, 0))) ∧ Aside0 (w'.heap[gb379]? = some (.cells #[(.slice none 0 0), u380001] 29 (0, 0))) ∧ Aside0 (IsS67 w0 w' g s0_0 t377 t378) ∧ Aside0 (KeepBut w w' g none) ∧ Aside0 (Below w0.heap.size w0 w'))
    case atStart => exact ⟨(y380), (0), zs, H', ⟨Nat.le_refl _⟩, ⟨zR (Kd.R_mono HO_3.out (fun _ hk => hk.2))⟩, ⟨zR (Kd.R_mono HO382.out (fun _ hk => hk.2))⟩, ⟨zS HO_380001.out⟩, ⟨zH BK373.out⟩, ⟨zH BK379.out⟩, ⟨zI672 HI0.out NB0_373.out NB0_379.out⟩, ⟨zK2 HK.out GW373.out GW379.out⟩, ⟨zB3 HB.out (IsS67.ge HI0.out) GE373.out GE379.out⟩⟩
    case round =>
     clear H'
     try clear p2
     try clear c3
     try clear c5
     try clear c6
     try clear c7
     try clear c9
     try clear c9b0
     try clear hcz8_0
     try clear hcz8_1
     try clear hfz8_0
     try clear hfz8_1
     try clear p2
     obtain ⟨x6_2, x7_2, rfl, HA, HK2, HO_3, HO_6, HO_380001, BK373, BK379, HI0, HK, HB⟩ := hrel
     cases gk with
     | zero => exact absurd HA.out (by simp [spec_l18Highest.l1])
     | succ k2 =>
      have H := HA.out
      clear HA
      simp only [spec_l18Highest.l1] at H
      by_cases c13 : 0 ≤ x5_1
      ·rw [if_pos c13] at H
       have c13b0 : decide (0 ≤ x5_1) = true := decide_eq_true c13
       clear c13
       by_cases c14 : x5_1 < (t374.length : Int)
       ·rw [if_pos c14] at H
        have c14b0 : decide (x5_1 < (t374.length : Int)) = true := decide_eq_true c14
        clear c14
        by_cases c15 : x7_2 < (rd t374 x5_1)
        ·rw [if_pos c15] at H
         have c15b0 : decide (x7_2 < (rd t374 x5_1)) = true := decide_eq_true c15
         clear c15
         by_cases c16 : x6_2.length < 17592186044416
         ·rw [if_pos c16] at H
          have LMc16 := Aside0.mk c16
          clear c16
          obtain ⟨y384, hy384⟩ : ∃ y_ : List Int, y_ = (x6_2 ++ [wrap64 (x5_1 + 1)]) := ⟨_, rfl⟩
          replace H : (spec_l18Highest.l1 k2 t374 x5_1 y384 (wrap64 (x7_2 + 1)) s0_0 t377 t378 x380001_1) = some (r1, r2, r3, r4) := zY hy384 H
          have Ny384 := Aside0.mk hy384
          clear hy384
          have H' := Aside0.mk H
          clear H
          have p383 : 0 ≤ (x5_1 : Int) := zd
          have q383 : x5_1 < (t374.length : Int) := zd
          obtain ⟨ad383, e383, hx383_0⟩ := Kd.at_int (Kd.R_reads' HO_3.out).2.2 x5_1 p383 q383
          cases e383
          replace p383 := eq_true p383
          replace q383 := eq_true q383
          go_wp2_with (first | ((with_reducible refine gate_builtin (b := .append) (xs := #[.tmp 26, .tmp 29]) rfl ?_); at_builtin; refine Kd.R_append (Kd.int .i64) w.heap.size rfl (.tmp 26) (.tmp 29) 24 3 (.int .i64 0) 8 rfl Tryz.underlying24 info3 rfl (by decide) (by omega) u6 x6_2 (wrap64 (x5_1 + 1)) [.int .i64 (wrap64 (x5_1 + 1))] (fun k_ => some k_ ≠ (.slice (some ad383) t374.length co10 : Value).ownBlock) (fun _ => False) rfl rfl ?aP (fun _ hk => hk.elim) ?aF ?aO (Below.refl _ _) ?aS ?aL ?_; (case aP => exact rfl); (case aF => exact (fun k_ hk => Kd.fresh' (Kd.R_lt (zR HO_3.out)) k_ hk)); (case aO => exact (zR HO_6.out)); (case aS => exact (keep_size (w := w) (g := g) (row := none) (zK2 HK.out GW373.out GW379.out))); (case aL => have := LMc16.out; omega); intro v385 w17 ho hb hg hat; rw [← Ny384.out] at ho; have n0_ := Aside0.mk (Kd.R_after (ok := (fun _ => True)) (zR (Kd.R_mono HO_3.out (fun _ hk => ⟨trivial, hk⟩))) hg hat); have n1_ := Aside0.mk (Kd.S_after (ok := (fun k_ => some k_ ≠ (.slice (some ad383) t374.length co10 : Value).ownBlock)) (zS HO_380001.out) hg hat); have n2_ := Aside0.mk (blk_grown (g := gb373) (o := .cells #[.slice none 0 0, .slice none 0 0] 29 (0, 0)) (zH BK373.out) hg (Kd.R_ne HO_6.out BK373.out (by decide))); have n3_ := Aside0.mk (blk_grown (g := gb379) (o := .cells #[.slice none 0 0, u380001] 29 (0, 0)) (zH BK379.out) hg (Kd.R_ne HO_6.out BK379.out (by decide))); have n4_ := Aside0.mk (IsS67.grown (zI672 HI0.out NB0_373.out NB0_379.out) hg (IsS67.own_ne HI0.out HO_6.out (by decide))); have n5_ := Aside0.mk (below_weaken (zB3 HB.out (IsS67.ge HI0.out) GE373.out GE379.out) HL.out hb); have n6_ := Aside0.mk (KeepBut.trans (zK2 HK.out GW373.out GW379.out) (KeepBut.of_grown hg g) (Kd.R_base2 HO_6.out)); have n7_ := Aside0.mk (ho); clear HO_3; clear HO_380001; clear BK373; clear BK379; clear HI0; clear HB; clear HK; clear HO_6; have HO_3 := n0_; have HO_380001 := n1_; have BK373 := n2_; have BK379 := n3_; have HI0 := n4_; have HB := n5_; have HK := n6_; have HO386 := n7_; clear n0_ n1_ n2_ n3_ n4_ n5_ n6_ n7_; clear ho hb hg hat))
          go_roundg k2
          case measure => have := HK1.out; have := HK2.out; omega
          case rel => exact ⟨(y384), (wrap64 (x7_2 + 1)), zs, H', ⟨by have := HK1.out; have := HK2.out; omega⟩, ⟨zR (Kd.R_mono HO_3.out (fun _ hk => hk.2))⟩, ⟨zR HO386.out⟩, ⟨zS HO_380001.out⟩, ⟨zH BK373.out⟩, ⟨zH BK379.out⟩, ⟨zI672 HI0.out NB0_373.out NB0_379.out⟩, ⟨zK2 HK.out GW373.out GW379.out⟩, ⟨zB3 HB.out (IsS67.ge HI0.out) GE373.out GE379.out⟩⟩
         ·rw [if_neg c16] at H
          exact absurd H (by simp)
        ·rw [if_neg c15] at H
         have c15b0 : decide (x7_2 < (rd t374 x5_1)) = false := decide_eq_false c15
         clear c15
         by_cases c18 : x380001_1.length < 5864062014805
         ·rw [if_pos c18] at H
          have LMc18 := Aside0.mk c18
          clear c18
          obtain ⟨y387, hy387⟩ : ∃ y_ : List (List Int), y_ = (x380001_1 ++ [x6_2]) := ⟨_, rfl⟩
          replace H : (spec_l18Highest.l0 k2 t374 (wrap64 (x5_1 + 1)) s0_0 t377 t378 y387) = some (r1, r2, r3, r4) := zY hy387 H
          have Ny387 := Aside0.mk hy387
          clear hy387
          have H' := Aside0.mk H
          clear H
          have p383 : 0 ≤ (x5_1 : Int) := zd
          have q383 : x5_1 < (t374.length : Int) := zd
          obtain ⟨ad383, e383, hx383_0⟩ := Kd.at_int (Kd.R_reads' HO_3.out).2.2 x5_1 p383 q383
          cases e383
          replace p383 := eq_true p383
          replace q383 := eq_true q383
          have hnb19 := NB379_373.out
          have hnc19 := NB373_379.out
          have hnb20 := NB379_0.out
          have hnc20 := NB0_379.out
          have hcz21_0 : wr.cell? ⟨gb379, 0, none⟩ = some (.slice none 0 0) := (blk_cell BK379.out 0).trans rfl
          have hcz21_1 : wr.cell? ⟨gb379, 1, none⟩ = some (u380001) := (blk_cell BK379.out 1).trans rfl
          have hfz21_0 := blk_frozen BK379.out 0
          have hfz21_1 := blk_frozen BK379.out 1
          obtain ⟨Ao23, co23, eo23⟩ := Kd.R_slice HO_6.out
          subst eo23
          go_wp2_with (first | ((with_reducible refine gate_builtin (b := .append) (xs := #[.tmp 32, .tmp 34]) rfl ?_); at_builtin; refine Kd.S_append (Kd.slice 3 (Kd.int .i64)) w.heap.size rfl (.tmp 32) (.tmp 34) 27 24 (.slice none 0 0) 24 rfl Tryz.underlying27 info24 rfl (by decide) (by omega) u380001 x380001_1 x6_2 [.slice Ao23 x6_2.length co23] (fun k_ => some k_ ≠ (.slice (some ad383) t374.length co10 : Value).ownBlock) (fun k_ => some k_ = (.slice Ao23 x6_2.length co23 : Value).ownBlock) rfl rfl ?aP (fun k_ hk_ => ((Kd.R_mono (ok' := fun k_ => ((fun k_ => some k_ ≠ (.slice (some ad383) t374.length co10 : Value).ownBlock)) k_ ∧ some k_ ≠ (u380001 : Value).ownBlock) (Kd.R_apart' (HO_6.out) (Kd.S_typed HO_380001.out) (by decide)) (fun k_ hk => ⟨hk.1, hk.2⟩))).1 k_ hk_.symm) ?aF ?aO (Below.refl _ _) ?aS ?aL ?_; (case aP => exact Kd.M_row (Kd.R_mono (Kd.R_tight rfl (Kd.R_mono (ok' := fun k_ => ((fun k_ => some k_ ≠ (.slice (some ad383) t374.length co10 : Value).ownBlock)) k_ ∧ some k_ ≠ (u380001 : Value).ownBlock) (Kd.R_apart' (HO_6.out) (Kd.S_typed HO_380001.out) (by decide)) (fun k_ hk => ⟨hk.1, hk.2⟩))) (fun _ h_ => h_))); (case aF => exact (fun k_ hk => Kd.fresh' (Kd.R_lt (zR HO_3.out)) k_ hk)); (case aO => exact (zS (Kd.S_mono HO_380001.out (fun k_ hk => ⟨hk.1, fun e_ => hk.2 e_⟩)))); (case aS => exact (keep_size (w := w) (g := g) (row := none) (zK2 HK.out GW373.out GW379.out))); (case aL => have := LMc18.out; omega); intro v388 w22 ho hb hg hat; rw [← Ny387.out] at ho; have n0_ := Aside0.mk (Kd.R_over' (zR HO_3.out) (Kd.S_typed (zS HO_380001.out)) (by decide) hg); have n1_ := Aside0.mk (blk_grown (g := gb373) (o := .cells #[.slice none 0 0, .slice none 0 0] 29 (0, 0)) (zH BK373.out) hg (Kd.S_ne HO_380001.out BK373.out (by decide))); have n2_ := Aside0.mk (blk_grown (g := gb379) (o := .cells #[.slice none 0 0, u380001] 29 (0, 0)) (zH BK379.out) hg (Kd.S_ne HO_380001.out BK379.out (by decide))); have n3_ := Aside0.mk (IsS67.grown (zI672 HI0.out NB0_373.out NB0_379.out) hg (IsS67.own_neS HI0.out HO_380001.out (by decide))); have n4_ := Aside0.mk (below_weaken (zB3 HB.out (IsS67.ge HI0.out) GE373.out GE379.out) HL.out hb); have n5_ := Aside0.mk (KeepBut.trans (zK2 HK.out GW373.out GW379.out) (KeepBut.of_grown hg g) (Kd.S_base2 HO_380001.out)); have n6_ := Aside0.mk (ho); clear HO_3; clear BK373; clear BK379; clear HI0; clear HB; clear HK; clear HO_380001; clear HO_6; have HO_3 := n0_; have BK373 := n1_; have BK379 := n2_; have HI0 := n3_; have HB := n4_; have HK := n5_; have HO389 := n6_; clear n0_ n1_ n2_ n3_ n4_ n5_ n6_; clear ho hb hg hat; obtain ⟨Ao24, co24, eo24⟩ := Kd.S_slice HO389.out; subst eo24; have hcz25_0 : w22.cell? ⟨gb379, 0, none⟩ = some (.slice none 0 0) := (blk_cell BK379.out 0).trans rfl; have hcz25_1 : w22.cell? ⟨gb379, 1, none⟩ = some (u380001) := (blk_cell BK379.out 1).trans rfl; have hfz25_0 := blk_frozen BK379.out 0; have hfz25_1 := blk_frozen BK379.out 1))
          go_roundg k2
          case measure => have := HK1.out; have := HK2.out; omega
          case rel => exact ⟨(wrap64 (x5_1 + 1)), (y387), (.slice Ao24 y387.length co24), zs, H', ⟨by have := HK1.out; have := HK2.out; omega⟩, ⟨zR (Kd.R_mono (Kd.R_far (p := ⟨gb379, 1, none⟩) (Kd.R_types HO_3.out BK379.out (by decide)) (fun _ hk => hk.2) (.slice Ao24 y387.length co24)) (fun _ hk => trivial))⟩, ⟨zS (Kd.S_mono (Kd.S_far (p := ⟨gb379, 1, none⟩) (Kd.S_types HO389.out BK379.out (by decide)) (fun _ hk => hk.2) (.slice Ao24 y387.length co24)) (fun _ hk => hk.1))⟩, ⟨by (with_reducible repeat (first | refine blk_drewN ?_ _ | refine blk_drew ?_ | refine blk_alloc ?_ _)); refine blk_far ?_ NB373_379.out _; (with_reducible repeat (first | refine blk_drewN ?_ _ | refine blk_drew ?_ | refine blk_alloc ?_ _)); exact BK373.out⟩, ⟨by (with_reducible repeat (first | refine blk_drewN ?_ _ | refine blk_drew ?_ | refine blk_alloc ?_ _)); refine blk_put (cs := #[.slice none 0 0, u380001]) ?_ 1 _ rfl; (with_reducible repeat (first | refine blk_drewN ?_ _ | refine blk_drew ?_ | refine blk_alloc ?_ _)); exact BK379.out⟩, ⟨zI672 HI0.out NB0_373.out NB0_379.out⟩, ⟨zK2 HK.out GW373.out GW379.out⟩, ⟨zB3 HB.out (IsS67.ge HI0.out) GE373.out GE379.out⟩⟩
         ·rw [if_neg c18] at H
          exact absurd H (by simp)
       ·rw [if_neg c14] at H
        exact absurd H (by simp)
      ·rw [if_neg c13] at H
       exact absurd H (by simp)
   ·rw [if_neg c9] at H
    have c9b0 : decide (x5_1 < (t374.length : Int)) = false := decide_eq_false c9
    clear c9
    simp only [Option.some.injEq, Prod.mk.injEq] at H
    obtain ⟨rfl, rfl, rfl, rfl⟩ := H
    obtain ⟨Ao26, co26, eo26⟩ := Kd.R_slice HO_3.out
    subst eo26
    have hnb27 := NB379_373.out
    have hnc27 := NB373_379.out
    have hnb28 := NB379_0.out
    have hnc28 := NB0_379.out
    have hcz29_0 : wr.cell? ⟨gb379, 0, none⟩ = some (.slice none 0 0) := (blk_cell BK379.out 0).trans rfl
    have hcz29_1 : wr.cell? ⟨gb379, 1, none⟩ = some (u380001) := (blk_cell BK379.out 1).trans rfl
    have hfz29_0 := blk_frozen BK379.out 0
    have hfz29_1 := blk_frozen BK379.out 1
    have hnb30 := NB373_0.out
    have hnc30 := NB0_373.out
    have hcz31_0 : wr.cell? ⟨gb373, 0, none⟩ = some (.slice none 0 0) := (blk_cell BK373.out 0).trans rfl
    have hcz31_1 : wr.cell? ⟨gb373, 1, none⟩ = some (.slice none 0 0) := (blk_cell BK373.out 1).trans rfl
    have hfz31_0 := blk_frozen BK373.out 0
    have hfz31_1 := blk_frozen BK373.out 1
    obtain ⟨Ao32, co32, eo32⟩ := Kd.S_slice HO_380001.out
    subst eo32
    go_wp2
    refine bodyPost_ret (results_cell_row rfl _ _ gb373 29 #[.slice none 0 0, .slice Ao32 x380001_1.length co32] (0, 0) _ rfl (by (with_reducible repeat (first | refine blk_drewN ?_ _ | refine blk_drew ?_ | refine blk_alloc ?_ _)); refine blk_put (cs := #[.slice none 0 0, .slice none 0 0]) ?_ 1 _ rfl; (with_reducible repeat (first | refine blk_drewN ?_ _ | refine blk_drew ?_ | refine blk_alloc ?_ _)); refine blk_put (cs := #[.slice none 0 0, .slice none 0 0]) ?_ 0 _ rfl; (with_reducible repeat (first | refine blk_drewN ?_ _ | refine blk_drew ?_ | refine blk_alloc ?_ _)); exact BK373.out) Tryz.underlying29 rfl (by kernel_rfl)) rfl ?_
    exact ⟨_, _, zr, by first | exact Kd.R_nil _ _ _ _ _ | exact Kd.N_nil _ _ _ _ _ | exact Kd.V_nil _ _ _ _ _ | exact Kd.Q_nil _ _ _ _ _ | exact Kd.S_nil _ _ _ _ _, zS (Kd.S_mono (Kd.S_far (p := ⟨gb373, 1, none⟩) (Kd.S_far (p := ⟨gb373, 0, none⟩) (Kd.S_types HO_380001.out BK373.out (by decide)) (fun _ hk => hk.2) (.slice none 0 0)) (fun _ hk => hk.2) (.slice Ao32 x380001_1.length co32)) (fun _ hk => (by simp [Value.ownBlock]))), zI672 HI0.out NB0_373.out NB0_379.out, zB3 HB.out (IsS67.ge HI0.out) GE373.out GE379.out, zK2 HK.out GW373.out GW379.out⟩

def spec_DrawIsLattice.f (k : Nat) (l0 : List Int) : Option (List Int) := (spec_l1New.f k l0).bind fun bt390 => ((spec_l1Once.f bt390.1 bt390.2.1 bt390.2.2 3).bind fun bt394 => (if bt394.1 = true then ((spec_l18Highest.f k bt390.1 bt394.2.1 bt394.2.2).bind fun bt397 => ((spec_ReadingWord.f k bt397.1 bt397.2.1).bind fun t405 => (some t405))) else ((spec_l8Bent.f k bt390.1 bt394.2.1 bt394.2.2).bind fun bt408 => (some bt408.1))))
set_option maxHeartbeats 8000000 in
set_option maxRecDepth 100000 in
theorem spec_DrawIsLattice.calls (k : Nat) (A0 : Option Addr) (c0 : Nat) (l0 : List Int) (r : List Int) (w : World) (hr0 : Kd.C (Kd.int .u8) w A0 l0.length l0) (hc0 : l0.length ≤ c0) (h : spec_DrawIsLattice.f k l0 = some r) :
  Calls Tryz.prog 8 #[.slice A0 l0.length c0] w fun e w' => ∃ v0_ : Value, e = .returned (v0_) ∧ Kd.R (Kd.int .i64) 3 w' w.heap.size (fun _ => True) v0_ r ∧ Below w.heap.size w w' := by
 have HR0 := Aside0.mk hr0
 have HC0 := Aside0.mk hc0
 clear hr0 hc0
 have HB := Aside0.mk (Below.refl w.heap.size w)
 have H : ((spec_l1New.f k l0).bind fun bt390 => ((spec_l1Once.f bt390.1 bt390.2.1 bt390.2.2 3).bind fun bt394 => (if bt394.1 = true then ((spec_l18Highest.f k bt390.1 bt394.2.1 bt394.2.2).bind fun bt397 => ((spec_ReadingWord.f k bt397.1 bt397.2.1).bind fun t405 => (some t405))) else ((spec_l8Bent.f k bt390.1 bt394.2.1 bt394.2.2).bind fun bt408 => (some bt408.1))))) = some r := h
 clear h
 replace H := Option.bind_eq_some_iff.mp H
 obtain ⟨⟨t390, t391, t392⟩, A20, H⟩ := H
 replace H : ((spec_l1Once.f t390 t391 t392 3).bind fun bt394 => (if bt394.1 = true then ((spec_l18Highest.f k t390 bt394.2.1 bt394.2.2).bind fun bt397 => ((spec_ReadingWord.f k bt397.1 bt397.2.1).bind fun t405 => (some t405))) else ((spec_l8Bent.f k t390 bt394.2.1 bt394.2.2).bind fun bt408 => (some bt408.1)))) = some r := H
 have A2 := Aside0.mk A20
 clear A20
 replace H := Option.bind_eq_some_iff.mp H
 obtain ⟨⟨t394, t395, t396⟩, A30, H⟩ := H
 replace H : (if t394 = true then ((spec_l18Highest.f k t390 t395 t396).bind fun bt397 => ((spec_ReadingWord.f k bt397.1 bt397.2.1).bind fun t405 => (some t405))) else ((spec_l8Bent.f k t390 t395 t396).bind fun bt408 => (some bt408.1))) = some r := H
 have A3 := Aside0.mk A30
 clear A30
 by_cases c4 : t394 = true
 ·subst c4
  have H1 : ((spec_l18Highest.f k t390 t395 t396).bind fun bt397 => ((spec_ReadingWord.f k bt397.1 bt397.2.1).bind fun t405 => (some t405))) = some r := by rw [if_pos rfl] at H; exact H
  clear H
  have H := H1
  clear H1
  replace H := Option.bind_eq_some_iff.mp H
  obtain ⟨⟨t397, t400, t403, t404⟩, A50, H⟩ := H
  replace H : ((spec_ReadingWord.f k t397 t400).bind fun t405 => (some t405)) = some r := H
  have A5 := Aside0.mk A50
  clear A50
  replace H := Option.bind_eq_some_iff.mp H
  obtain ⟨t405, A60, H⟩ := H
  replace H : (some t405) = some r := H
  have A6 := Aside0.mk A60
  clear A60
  obtain rfl := Option.some.inj H
  go_enter Tryz.func8, Tryz.ntmps8
  go_wp2_with (first | ((with_reducible refine gate_callee (f := 32) rfl ?_); refine zG (some 5) Tryz.func32 #[.slice A0 l0.length c0] ?_; (with_reducible refine (spec_l1New.calls k _ _ l0 t390 t391 t392 w _ ?side1 ?side2 ?side3 A2.out).mono ?_); (case side1 => exact zB HB.out); (case side2 => exact HR0.out); (case side3 => exact HC0.out); rintro e w7 ⟨g393, rfl, hi, hb, hb2⟩; refine ⟨_, rfl, ?_⟩; have n0_ := Aside0.mk (hb); have n1_ := Aside0.mk (hi); clear HB; have HB := n0_; have HI393 := n1_; clear n0_ n1_; (try clear hb); (try clear hb2); (try clear hk); (try clear hi)) | ((with_reducible refine gate_callee (f := 34) rfl ?_); refine zG (some 7) Tryz.func34 #[.pointer (some ⟨g393, 0, none⟩), .int .i64 3] ?_; (with_reducible refine (spec_l1Once.calls g393 t390 t391 t392 3 true t395 t396 w _ ?side1 ?side2 A3.out).mono ?_); (case side1 => exact zI67 HI393.out); (case side2 => exact zB1 HB.out (IsS67.ge HI393.out)); rintro e w8 ⟨rfl, hi, hb, hk⟩; refine ⟨_, rfl, ?_⟩; have n0_ := Aside0.mk (hb); have n1_ := Aside0.mk (hi); clear HB; clear HI393; have HB := n0_; have HI393 := n1_; clear n0_ n1_; (try clear hb); (try clear hb2); (try clear hk); (try clear hi)) | ((with_reducible refine gate_callee (f := 35) rfl ?_); refine zG (some 9) Tryz.func35 #[.pointer (some ⟨g393, 0, none⟩)] ?_; (with_reducible refine (spec_l18Highest.calls k g393 t390 t395 t396 t397 t400 t403 t404 w _ ?side1 ?side2 A5.out).mono ?_); (case side1 => exact zI67 HI393.out); (case side2 => exact zB1 HB.out (IsS67.ge HI393.out)); rintro e w9 ⟨v398, v401, rfl, ho0, ho1, hi, hb, hk⟩; refine ⟨_, rfl, ?_⟩; have n0_ := Aside0.mk (Kd.R_lower ho0 (below_size (zB1 HB.out (IsS67.ge HI393.out)))); have n1_ := Aside0.mk (Kd.S_lower ho1 (below_size (zB1 HB.out (IsS67.ge HI393.out)))); have n2_ := Aside0.mk (hb); have n3_ := Aside0.mk (hi); clear HB; clear HI393; have HO399 := n0_; have HO402 := n1_; have HB := n2_; have HI393 := n3_; clear n0_ n1_ n2_ n3_; (try clear hb); (try clear hb2); (try clear hk); (try clear hi); (try clear ho0); (try clear ho1); obtain ⟨Ao10, co10, eo10⟩ := Kd.R_slice HO399.out; subst eo10; obtain ⟨Ao11, co11, eo11⟩ := Kd.S_slice HO402.out; subst eo11) | ((with_reducible refine gate_callee (f := 18) rfl ?_); refine zG (some 10) Tryz.func18 #[.agg #[.slice Ao10 t397.length co10, .slice Ao11 t400.length co11]] ?_; (with_reducible refine (spec_ReadingWord.calls k _ _ t397 _ _ t400 t405 _ ?side1 ?side2 ?side3 ?side4 A6.out).mono ?_); (case side1 => exact zQ (Kd.R_reads' HO399.out).2.2); (case side2 => exact (Kd.R_reads' HO399.out).2.1); (case side3 => repeat (first | exact (Kd.S_reads' HO402.out).2.2 | (with_reducible refine Kd.C_alloc ?_ _) | (with_reducible refine Kd.C_drewN ?_ _) | (with_reducible refine Kd.C_drew ?_))); (case side4 => exact (Kd.S_reads' HO402.out).2.1); rintro e w12 ⟨v406, rfl, ho0, hb⟩; refine ⟨_, rfl, ?_⟩; have n0_ := Aside0.mk (Kd.R_elder' (zR HO399.out) (Kd.R_base ho0) hb); have n1_ := Aside0.mk (Kd.S_elder' (zS HO402.out) (Kd.R_base ho0) hb); have n2_ := Aside0.mk (Kd.R_lower (Kd.R_new' ho0 (Kd.R_lt (zR HO399.out))) (below_size (zB1 HB.out (IsS67.ge HI393.out)))); have n3_ := Aside0.mk (IsS67.below (zI67 HI393.out) hb); have n4_ := Aside0.mk (below_step (zB1 HB.out (IsS67.ge HI393.out)) hb); clear HO399; clear HO402; clear HI393; clear HB; have HO399 := n0_; have HO402 := n1_; have HO407 := n2_; have HI393 := n3_; have HB := n4_; clear n0_ n1_ n2_ n3_ n4_; (try clear hb); (try clear hb2); (try clear hk); (try clear hi); (try clear ho0)))
  go_ret
  exact ⟨_, zr, zR (Kd.R_mono HO407.out (fun _ hk => trivial)), zB1 HB.out (IsS67.ge HI393.out)⟩
 ·replace c4 := Bool.eq_false_iff.mpr c4
  subst c4
  have H1 : ((spec_l8Bent.f k t390 t395 t396).bind fun bt408 => (some bt408.1)) = some r := by rw [if_neg (show ¬ (false = true) by decide)] at H; exact H
  clear H
  have H := H1
  clear H1
  replace H := Option.bind_eq_some_iff.mp H
  obtain ⟨⟨t408, t411, t412⟩, A130, H⟩ := H
  replace H : (some t408) = some r := H
  have A13 := Aside0.mk A130
  clear A130
  obtain rfl := Option.some.inj H
  go_enter Tryz.func8, Tryz.ntmps8
  go_wp2_with (first | ((with_reducible refine gate_callee (f := 32) rfl ?_); refine zG (some 5) Tryz.func32 #[.slice A0 l0.length c0] ?_; (with_reducible refine (spec_l1New.calls k _ _ l0 t390 t391 t392 w _ ?side1 ?side2 ?side3 A2.out).mono ?_); (case side1 => exact zB HB.out); (case side2 => exact HR0.out); (case side3 => exact HC0.out); rintro e w14 ⟨g393, rfl, hi, hb, hb2⟩; refine ⟨_, rfl, ?_⟩; have n0_ := Aside0.mk (hb); have n1_ := Aside0.mk (hi); clear HB; have HB := n0_; have HI393 := n1_; clear n0_ n1_; (try clear hb); (try clear hb2); (try clear hk); (try clear hi)) | ((with_reducible refine gate_callee (f := 34) rfl ?_); refine zG (some 7) Tryz.func34 #[.pointer (some ⟨g393, 0, none⟩), .int .i64 3] ?_; (with_reducible refine (spec_l1Once.calls g393 t390 t391 t392 3 false t395 t396 w _ ?side1 ?side2 A3.out).mono ?_); (case side1 => exact zI67 HI393.out); (case side2 => exact zB1 HB.out (IsS67.ge HI393.out)); rintro e w15 ⟨rfl, hi, hb, hk⟩; refine ⟨_, rfl, ?_⟩; have n0_ := Aside0.mk (hb); have n1_ := Aside0.mk (hi); clear HB; clear HI393; have HB := n0_; have HI393 := n1_; clear n0_ n1_; (try clear hb); (try clear hb2); (try clear hk); (try clear hi)) | ((with_reducible refine gate_callee (f := 31) rfl ?_); refine zG (some 12) Tryz.func31 #[.pointer (some ⟨g393, 0, none⟩)] ?_; (with_reducible refine (spec_l8Bent.calls k g393 t390 t395 t396 t408 t411 t412 w _ ?side1 ?side2 A13.out).mono ?_); (case side1 => exact zI67 HI393.out); (case side2 => exact zB1 HB.out (IsS67.ge HI393.out)); rintro e w16 ⟨v409, rfl, ho0, hi, hb, hk⟩; refine ⟨_, rfl, ?_⟩; have n0_ := Aside0.mk (Kd.R_lower ho0 (below_size (zB1 HB.out (IsS67.ge HI393.out)))); have n1_ := Aside0.mk (hb); have n2_ := Aside0.mk (hi); clear HB; clear HI393; have HO410 := n0_; have HB := n1_; have HI393 := n2_; clear n0_ n1_ n2_; (try clear hb); (try clear hb2); (try clear hk); (try clear hi); (try clear ho0)))
  go_ret
  exact ⟨_, zr, zR HO410.out, zB1 HB.out (IsS67.ge HI393.out)⟩

def spec_DrawComplementWord.f (k : Nat) (l0 : List Int) : Option (List Int × Int) := (spec_l1New.f k l0).bind fun bt413 => ((spec_l8Bent.f k bt413.1 bt413.2.1 bt413.2.2).bind fun bt417 => ((spec_l1Below.f bt413.1 bt417.2.1 bt417.2.2 11).bind fun bt422 => (some (bt417.1, bt422.1))))
set_option maxHeartbeats 8000000 in
set_option maxRecDepth 100000 in
theorem spec_DrawComplementWord.calls (k : Nat) (A0 : Option Addr) (c0 : Nat) (l0 : List Int) (r1 : List Int) (r2 : Int) (w : World) (hr0 : Kd.C (Kd.int .u8) w A0 l0.length l0) (hc0 : l0.length ≤ c0) (h : spec_DrawComplementWord.f k l0 = some (r1, r2)) :
  Calls Tryz.prog 9 #[.slice A0 l0.length c0] w fun e w' => ∃ v0_ : Value, e = .returned (.tuple #[v0_, .int .i64 r2]) ∧ Kd.R (Kd.int .i64) 3 w' w.heap.size (fun _ => True) v0_ r1 ∧ Below w.heap.size w w' := by
 have HR0 := Aside0.mk hr0
 have HC0 := Aside0.mk hc0
 clear hr0 hc0
 have HB := Aside0.mk (Below.refl w.heap.size w)
 have H : ((spec_l1New.f k l0).bind fun bt413 => ((spec_l8Bent.f k bt413.1 bt413.2.1 bt413.2.2).bind fun bt417 => ((spec_l1Below.f bt413.1 bt417.2.1 bt417.2.2 11).bind fun bt422 => (some (bt417.1, bt422.1))))) = some (r1, r2) := h
 clear h
 replace H := Option.bind_eq_some_iff.mp H
 obtain ⟨⟨t413, t414, t415⟩, A20, H⟩ := H
 replace H : ((spec_l8Bent.f k t413 t414 t415).bind fun bt417 => ((spec_l1Below.f t413 bt417.2.1 bt417.2.2 11).bind fun bt422 => (some (bt417.1, bt422.1)))) = some (r1, r2) := H
 have A2 := Aside0.mk A20
 clear A20
 replace H := Option.bind_eq_some_iff.mp H
 obtain ⟨⟨t417, t420, t421⟩, A30, H⟩ := H
 replace H : ((spec_l1Below.f t413 t420 t421 11).bind fun bt422 => (some (t417, bt422.1))) = some (r1, r2) := H
 have A3 := Aside0.mk A30
 clear A30
 replace H := Option.bind_eq_some_iff.mp H
 obtain ⟨⟨t422, t423, t424⟩, A40, H⟩ := H
 replace H : (some (t417, t422)) = some (r1, r2) := H
 have A4 := Aside0.mk A40
 clear A40
 simp only [Option.some.injEq, Prod.mk.injEq] at H
 obtain ⟨rfl, rfl⟩ := H
 go_enter Tryz.func9, Tryz.ntmps9
 go_wp2_with (first | ((with_reducible refine gate_callee (f := 32) rfl ?_); refine zG (some 7) Tryz.func32 #[.slice A0 l0.length c0] ?_; (with_reducible refine (spec_l1New.calls k _ _ l0 t413 t414 t415 w _ ?side1 ?side2 ?side3 A2.out).mono ?_); (case side1 => exact zB HB.out); (case side2 => exact HR0.out); (case side3 => exact HC0.out); rintro e w5 ⟨g416, rfl, hi, hb, hb2⟩; refine ⟨_, rfl, ?_⟩; have n0_ := Aside0.mk (hb); have n1_ := Aside0.mk (hi); clear HB; have HB := n0_; have HI416 := n1_; clear n0_ n1_; (try clear hb); (try clear hb2); (try clear hk); (try clear hi)) | ((with_reducible refine gate_callee (f := 31) rfl ?_); refine zG (some 9) Tryz.func31 #[.pointer (some ⟨g416, 0, none⟩)] ?_; (with_reducible refine (spec_l8Bent.calls k g416 t413 t414 t415 t417 t420 t421 w _ ?side1 ?side2 A3.out).mono ?_); (case side1 => exact zI67 HI416.out); (case side2 => exact zB1 HB.out (IsS67.ge HI416.out)); rintro e w6 ⟨v418, rfl, ho0, hi, hb, hk⟩; refine ⟨_, rfl, ?_⟩; have n0_ := Aside0.mk (Kd.R_lower ho0 (below_size (zB1 HB.out (IsS67.ge HI416.out)))); have n1_ := Aside0.mk (hb); have n2_ := Aside0.mk (hi); clear HB; clear HI416; have HO419 := n0_; have HB := n1_; have HI416 := n2_; clear n0_ n1_ n2_; (try clear hb); (try clear hb2); (try clear hk); (try clear hi); (try clear ho0)) | ((with_reducible refine gate_callee (f := 36) rfl ?_); refine zG (some 12) Tryz.func36 #[.pointer (some ⟨g416, 0, none⟩), .int .i64 11] ?_; (with_reducible refine (spec_l1Below.calls g416 t413 t420 t421 11 t422 t423 t424 w _ ?side1 ?side2 A4.out).mono ?_); (case side1 => exact zI67 HI416.out); (case side2 => exact zB1 HB.out (IsS67.ge HI416.out)); rintro e w7 ⟨rfl, hi, hb, hk⟩; refine ⟨_, rfl, ?_⟩; have n0_ := Aside0.mk (Kd.R_mono (Kd.R_keep (IsS67.apart (show IsS67 w _ g416 t413 t420 t421 from zI67 HI416.out) (zR HO419.out) (by decide)) hk (fun _ h => h.2)) (fun _ h => h.1)); have n1_ := Aside0.mk (hb); have n2_ := Aside0.mk (hi); clear HO419; clear HB; clear HI416; have HO419 := n0_; have HB := n1_; have HI416 := n2_; clear n0_ n1_ n2_; (try clear hb); (try clear hb2); (try clear hk); (try clear hi)))
 go_ret2
 exact ⟨_, zr, zR HO419.out, zB1 HB.out (IsS67.ge HI416.out)⟩

theorem Complement_lit (n x : Int) (g : Nat) (W : World) (h : W.heap[g]? = some (.cells #[.int .i64 n] 3 (0, 0))) : Calls Tryz.prog 39 #[.int .i64 x, .pointer (some ⟨g, 0, none⟩)] W fun e w' => e = .returned (.bool (decide (x > n))) ∧ W = w' := by
 have hc : W.cell? ⟨g, 0, none⟩ = some (.int .i64 n) := (blk_cell h 0).trans rfl
 clear h
 go_enter Tryz.func39, Tryz.ntmps39
 go_wp2
 go_ret
 exact ⟨by simp, rfl⟩
theorem drawn_blk {w w1 : World} {g : Nat} {o : Obj} (h : w.heap[g]? = some o) (hd : Drawn0 w w1) : w1.heap[g]? = some o := blk_below h hd.below
def complement (l : List Int) (n : Int) : List Int × Bool := if decide (l.length ≤ 9) && !l.any (fun x => !decide (1 ≤ x ∧ x ≤ 9)) && decide (1 ≤ n ∧ n ≤ 9) && !l.any (fun x => decide (x > n)) then (l.map (fun x => n + 1 - x), true) else ([], false)
def impl_ComplementWord.f (l0 : List Int) (a1 : Int) : Option (List Int × Bool) := some (complement l0 a1)
set_option maxHeartbeats 4000000 in
theorem impl_ComplementWord.calls (A0 : Option Addr) (c0 : Nat) (l0 : List Int) (a1 : Int) (r1 : List Int) (r2 : Bool) (w : World) (hr0 : Kd.C (Kd.int .i64) w A0 l0.length l0) (hc0 : l0.length ≤ c0) (h : impl_ComplementWord.f l0 a1 = some (r1, r2)) : Calls Tryz.prog 10 #[.slice A0 l0.length c0, .int .i64 a1] w fun e w' => ∃ v0_ : Value, e = .returned (.tuple #[v0_, .bool r2]) ∧ Kd.R (Kd.int .i64) 3 w' w.heap.size (fun _ => True) v0_ r1 ∧ Below w.heap.size w w' := by
 have HR0 := Aside0.mk hr0
 have HC0 := Aside0.mk hc0
 have hlen : l0.length ≤ 9223372036854775807 := hr0.2.1
 have hE := Option.some.inj h
 clear hr0 hc0 h
 have HB := Aside0.mk (Below.refl w.heap.size w)
 by_cases hw : (decide (l0.length ≤ 9) && !l0.any (fun x => !decide (1 ≤ x ∧ x ≤ 9))) = true
 ·have AW := Aside0.mk (show impl_IsWord.f l0 = some true by unfold impl_IsWord.f; rw [hw])
  by_cases hn : 1 ≤ a1 ∧ a1 ≤ 9
  ·have hn1 : decide (1 ≤ a1) = true := decide_eq_true hn.1
   have hn2 : decide (a1 ≤ 9) = true := decide_eq_true hn.2
   have hn3 : 1 ≤ a1 := hn.1
   have hn4 : a1 ≤ 9 := hn.2
   by_cases ha : l0.any (fun x => decide (x > a1)) = true
   ·have E : Aside0 (r1 = [] ∧ r2 = false) := ⟨by unfold complement at hE; rw [hw, decide_eq_true hn, ha] at hE; exact ⟨(Prod.mk.inj hE).1.symm, (Prod.mk.inj hE).2.symm⟩⟩
    have A2 := Aside0.mk ha
    clear hE hw hn ha
    obtain ⟨rfl, rfl⟩ := E.out
    clear E
    go_enter Tryz.func10, Tryz.ntmps10
    go_wp2_with (first | ((with_reducible refine gate_dst (N := 3) rfl ?_); refine zX (N := 3) (cs := #[.int .i64 a1]) (t := 3) ?_; intro gb hgb w4 hbox hb; have BK := Aside0.mk hbox; clear HB; have HB := Aside0.mk hb; clear hgb hbox hb) | (go_at_call 21; (with_reducible refine (impl_IsWord.calls _ _ l0 true _ (Kd.C_below HR0.out HB.out) HC0.out AW.out).mono ?_); rintro e w5 ⟨rfl, hd5⟩; have D5 := Aside0.mk hd5; clear hd5; have hcz : w5.cell? ⟨gb, 0, none⟩ = some (.int .i64 a1) := (blk_cell (drawn_blk BK.out D5.out) 0).trans rfl) | (go_at_call 37; refine (within_any _ _ _ _).mono ?_; rintro e w' ⟨rfl, rfl⟩) | (go_at_call 38; refine (containsFunc_pred 39 #[.pointer (some ⟨gb, 0, none⟩)] (fun x => decide (x > a1)) (enters_of Tryz.func39 (by kernel_rfl) rfl) A0 c0 l0 _ (fun W x hW => (Complement_lit a1 x gb W (drawn_blk (drawn_blk BK.out D5.out) hW)).mono fun e w' h => ⟨h.1, h.2 ▸ Drawn0.refl _⟩) (Kd.C_below (Kd.C_below HR0.out HB.out) D5.out.below)).mono ?_; rw [A2.out]; rintro e w6 ⟨rfl, hd6⟩))
    go_ret2
    exact ⟨_, rfl, Kd.R_nil _ _ _ _ _, below_step (below_step HB.out D5.out.below) hd6.below⟩
   ·have E : Aside0 (r1 = l0.map (fun x => a1 + 1 - x) ∧ r2 = true) := ⟨by unfold complement at hE; rw [hw, decide_eq_true hn, Bool.eq_false_iff.2 ha] at hE; exact ⟨(Prod.mk.inj hE).1.symm, (Prod.mk.inj hE).2.symm⟩⟩
    have A2 := Aside0.mk (Bool.eq_false_iff.2 ha)
    have h9 : l0.length ≤ 9 ∧ ∀ x ∈ l0, 1 ≤ x ∧ x ≤ 9 := by simp at hw; exact ⟨hw.1, hw.2⟩
    have L9 := Aside0.mk h9
    clear hE hw hn ha h9
    obtain ⟨rfl, rfl⟩ := E.out
    clear E
    go_enter Tryz.func10, Tryz.ntmps10
    go_wp2_with (first | ((with_reducible refine gate_dst (N := 3) rfl ?_); refine zX (N := 3) (cs := #[.int .i64 a1]) (t := 3) ?_; intro gb hgb w4 hbox hb; have BK := Aside0.mk hbox; have GB := Aside0.mk (show w.heap.size ≤ gb by omega); clear HB; have HB := Aside0.mk hb; clear hgb hbox hb) | (go_at_call 21; (with_reducible refine (impl_IsWord.calls _ _ l0 true _ (Kd.C_below HR0.out HB.out) HC0.out AW.out).mono ?_); rintro e w5 ⟨rfl, hd5⟩; have D5 := Aside0.mk hd5; clear hd5; have hcz : w5.cell? ⟨gb, 0, none⟩ = some (.int .i64 a1) := (blk_cell (drawn_blk BK.out D5.out) 0).trans rfl) | (go_at_call 37; refine (within_any _ _ _ _).mono ?_; rintro e w' ⟨rfl, rfl⟩) | (go_at_call 38; refine (containsFunc_pred 39 #[.pointer (some ⟨gb, 0, none⟩)] (fun x => decide (x > a1)) (enters_of Tryz.func39 (by kernel_rfl) rfl) A0 c0 l0 _ (fun W x hW => (Complement_lit a1 x gb W (drawn_blk (drawn_blk BK.out D5.out) hW)).mono fun e w' h => ⟨h.1, h.2 ▸ Drawn0.refl _⟩) (Kd.C_below (Kd.C_below HR0.out HB.out) D5.out.below)).mono ?_; rw [A2.out]; rintro e w6 ⟨rfl, hd6⟩; have n0_ := Aside0.mk (below_step (below_step HB.out D5.out.below) hd6.below); have n1_ := Aside0.mk (drawn_blk (drawn_blk BK.out D5.out) hd6); clear HB BK D5 hd6 hcz; have HB := n0_; have BK := n1_; clear n0_ n1_) | ((with_reducible refine gate_dst (N := 22) rfl ?_); refine Kd.R_lit (Kd.int .i64) _ 3 ?hg (N := 22) ?hd (xs := ([] : List Int)) (inner := []) (ok := fun k => k ≠ gb) (okp := fun k => k ≠ gb) ?hr ?hp (fun _ hk => hk) (fun e_ => Nat.lt_irrefl _ (e_ ▸ blk_lt BK.out)) (Below.refl _ _) (Nat.le_refl _) (by simp) ?_; (case hd => rfl); (case hg => rfl); (case hr => first | (go_simp; done) | (go_simp; rfl)); (case hp => exact (Reps.none _ _)); intro v7 w7 ho7 hb7 hg_ hnew_; clear hg_ hnew_; have HO := Aside0.mk (Kd.R_lower ho7 (below_size HB.out)); have n0_ := Aside0.mk (below_step HB.out hb7); have n1_ := Aside0.mk (blk_below BK.out hb7); clear HB BK; have HB := n0_; have BK := n1_; clear n0_ n1_ hb7 ho7))
    go_loopg [6, 25] l0.length (fun kq v6 v25 wr => ∃ i : Nat, i ≤ l0.length ∧ l0.length - i ≤ kq ∧ v25 = .int .i64 i ∧ Aside0 (Kd.R (Kd.int .i64) 3 wr w.heap.size (fun k => k ≠ gb) v6 ((l0.take i).map (fun x => a1 + 1 - x))) ∧ Aside0 (wr.heap[gb]? = some (.cells #[.int .i64 a1] 3 (0, 0))) ∧ Aside0 (Below w.heap.size w wr))
    case atStart => exact ⟨0, Nat.zero_le _, by omega, rfl, ⟨by simpa using HO.out⟩, BK, HB⟩
    case round =>
     clear HO HB BK
     obtain ⟨i, hi, hg, rfl, HO, BK, HB⟩ := hrel
     have hcz : wr.cell? ⟨gb, 0, none⟩ = some (.int .i64 a1) := (blk_cell BK.out 0).trans rfl
     by_cases hlt : i < l0.length
     ·have hltz : (i : Int) < (l0.length : Int) := by omega
      obtain ⟨ad, e1, hx⟩ := Kd.at_int HR0.out (i : Int) (by omega) hltz
      cases e1
      rw [Int.toNat_natCast] at hx
      replace hx := (HB.out.cell (World.block_lt_of_cell? w _ hx)).trans hx
      have B : Aside0 (rd l0 (i : Int) = l0.getD i 0 ∧ 1 ≤ rd l0 (i : Int) ∧ rd l0 (i : Int) ≤ 9) := ⟨by
       have e1 : rd l0 (i : Int) = l0.getD i 0 := by unfold rd; congr 1
       refine ⟨e1, ?_⟩
       rw [e1]
       have := L9.out.2 (l0.getD i 0) (by rw [List.getD_eq_getElem?_getD, List.getElem?_eq_getElem hlt]; exact List.getElem_mem hlt)
       exact this⟩
      generalize rd l0 (i : Int) = y at hx B
      have hy1 : 1 ≤ y := B.out.2.1
      have hy2 : y ≤ 9 := B.out.2.2
      go_wp2_with (first | ((with_reducible refine gate_builtin (b := .append) (xs := #[.tmp 29, .tmp 34]) rfl ?_); at_builtin; refine Kd.R_append (Kd.int .i64) (w0 := w) w.heap.size rfl (.tmp 29) (.tmp 34) 24 3 (.int .i64 0) 8 rfl Tryz.underlying24 info3 rfl (by decide) (by omega) u6 ((l0.take i).map (fun x => a1 + 1 - x)) (a1 + 1 - y) [.int .i64 (a1 + 1 - y)] (fun k => k ≠ gb) (fun _ => False) rfl rfl ?aP (fun _ hk => hk.elim) ?aF ?aO ?aB ?aS ?aL ?_; (case aP => exact rfl); (case aB => exact HB.out); (case aF => intro k hk e_; have := blk_lt BK.out; omega); (case aO => exact HO.out); (case aS => exact (below_size HB.out)); (case aL => have := L9.out.1; simp; omega); intro v8 w8 ho8 hb8 hg8 hat8; have HO8 := Aside0.mk ho8; have n0_ := Aside0.mk (blk_grown BK.out hg8 (fun e_ => HO.out.1 gb e_.symm rfl)); clear HB BK; have HB := Aside0.mk hb8; have BK := n0_; clear n0_ ho8 hb8 hg8 hat8))
      go_roundg (l0.length - (i + 1))
      case measure => omega
      case rel =>
       refine ⟨i + 1, by omega, by omega, by go_num, ⟨?_⟩, BK, HB⟩
       rw [List.take_succ_eq_append_getElem hlt, List.map_append]
       have e2 : y = l0[i] := by rw [B.out.1, List.getD_eq_getElem?_getD, List.getElem?_eq_getElem hlt]; rfl
       rw [e2] at HO8
       exact HO8.out
     ·have hltz : ¬ (i : Int) < (l0.length : Int) := by omega
      have : i = l0.length := by omega
      subst this
      go_wp2
      go_ret2
      rw [List.take_length] at HO
      exact ⟨_, rfl, Kd.R_mono HO.out (fun _ _ => trivial), HB.out⟩
  ·have E : Aside0 (r1 = [] ∧ r2 = false) := ⟨by unfold complement at hE; rw [hw, decide_eq_false hn] at hE; exact ⟨(Prod.mk.inj hE).1.symm, (Prod.mk.inj hE).2.symm⟩⟩
   have hn1 : (decide (1 ≤ a1 ∧ a1 ≤ 9)) = false := decide_eq_false hn
   have hn2 : ¬ (1 ≤ a1 ∧ a1 ≤ 9) := hn
   clear hE hw hn
   obtain ⟨rfl, rfl⟩ := E.out
   clear E
   go_enter Tryz.func10, Tryz.ntmps10
   go_wp2_with (first | ((with_reducible refine gate_dst (N := 3) rfl ?_); refine zX (N := 3) (cs := #[.int .i64 a1]) (t := 3) ?_; intro gb hgb w4 hbox hb; have BK := Aside0.mk hbox; clear HB; have HB := Aside0.mk hb; clear hgb hbox hb) | (go_at_call 21; (with_reducible refine (impl_IsWord.calls _ _ l0 true _ (Kd.C_below HR0.out HB.out) HC0.out AW.out).mono ?_); rintro e w5 ⟨rfl, hd5⟩; have D5 := Aside0.mk hd5; clear hd5; have hcz : w5.cell? ⟨gb, 0, none⟩ = some (.int .i64 a1) := (blk_cell (drawn_blk BK.out D5.out) 0).trans rfl) | (go_at_call 37; refine (within_any _ _ _ _).mono ?_; rw [hn1]; rintro e w' ⟨rfl, rfl⟩))
   go_ret2
   exact ⟨_, rfl, Kd.R_nil _ _ _ _ _, below_step HB.out D5.out.below⟩
 ·have AW := Aside0.mk (show impl_IsWord.f l0 = some false by unfold impl_IsWord.f; rw [Bool.eq_false_iff.2 hw])
  have E : Aside0 (r1 = [] ∧ r2 = false) := ⟨by unfold complement at hE; rw [Bool.eq_false_iff.2 hw] at hE; exact ⟨(Prod.mk.inj hE).1.symm, (Prod.mk.inj hE).2.symm⟩⟩
  clear hE hw
  obtain ⟨rfl, rfl⟩ := E.out
  clear E
  go_enter Tryz.func10, Tryz.ntmps10
  go_wp2_with (first | ((with_reducible refine gate_dst (N := 3) rfl ?_); refine zX (N := 3) (cs := #[.int .i64 a1]) (t := 3) ?_; intro gb hgb w4 hbox hb; have BK := Aside0.mk hbox; clear HB; have HB := Aside0.mk hb; clear hgb hbox hb) | (go_at_call 21; (with_reducible refine (impl_IsWord.calls _ _ l0 false _ (Kd.C_below HR0.out HB.out) HC0.out AW.out).mono ?_); rintro e w5 ⟨rfl, hd5⟩))
  go_ret2
  exact ⟨_, rfl, Kd.R_nil _ _ _ _ _, below_step HB.out hd5.below⟩

mutual
def spec_ComplementWord.j0 : Nat → List Int → Int → List Int → Bool → Option (List Int × Bool)
 | 0, _, _, _, _ => none
 | k + 1, x0, x1, x6, x16 => if x16 = true then (some (x6, false)) else (spec_ComplementWord.l0 k x0 x1 x6 0)
def spec_ComplementWord.l0 : Nat → List Int → Int → List Int → Int → Option (List Int × Bool)
 | 0, _, _, _, _ => none
 | k + 1, x0, x1, x6, x7 => if x7 < (x0.length : Int) then (if 0 ≤ x7 then (if (rd x0 x7) > x1 then (some ((([] : List Int)), false)) else (if x6.length < 17592186044416 then (spec_ComplementWord.l0 k x0 x1 (x6 ++ [wrap64 ((wrap64 (x1 + 1)) - (rd x0 x7))]) (wrap64 (x7 + 1))) else (none))) else (none)) else (some (x6, true))
end
def spec_ComplementWord.f (k : Nat) (l0 : List Int) (a1 : Int) : Option (List Int × Bool) := (some (([] : List Int) : List Int)).bind fun y425 => ((spec_IsWord.f k l0).bind fun t428 => (if t428 = true then ((spec_l1In.f a1 1 9).bind fun t429 => (spec_ComplementWord.j0 k l0 a1 y425 (!t429))) else (spec_ComplementWord.j0 k l0 a1 y425 true)))
set_option maxHeartbeats 8000000 in
set_option maxRecDepth 100000 in
theorem spec_ComplementWord.calls (k : Nat) (A0 : Option Addr) (c0 : Nat) (l0 : List Int) (a1 : Int) (r1 : List Int) (r2 : Bool) (w : World) (hr0 : Kd.C (Kd.int .i64) w A0 l0.length l0) (hc0 : l0.length ≤ c0) (h : spec_ComplementWord.f k l0 a1 = some (r1, r2)) :
  Calls Tryz.prog 11 #[.slice A0 l0.length c0, .int .i64 a1] w fun e w' => ∃ v0_ : Value, e = .returned (.tuple #[v0_, .bool r2]) ∧ Kd.R (Kd.int .i64) 3 w' w.heap.size (fun _ => True) v0_ r1 ∧ Below w.heap.size w w' := by
 have HR0 := Aside0.mk hr0
 have HC0 := Aside0.mk hc0
 clear hr0 hc0
 have HB := Aside0.mk (Below.refl w.heap.size w)
 have H : ((some (([] : List Int) : List Int)).bind fun y425 => ((spec_IsWord.f k l0).bind fun t428 => (if t428 = true then ((spec_l1In.f a1 1 9).bind fun t429 => (spec_ComplementWord.j0 k l0 a1 y425 (!t429))) else (spec_ComplementWord.j0 k l0 a1 y425 true)))) = some (r1, r2) := h
 clear h
 obtain ⟨y425, hy425⟩ : ∃ y_ : List Int, y_ = (([] : List Int)) := ⟨_, rfl⟩
 replace H : ((spec_IsWord.f k l0).bind fun t428 => (if t428 = true then ((spec_l1In.f a1 1 9).bind fun t429 => (spec_ComplementWord.j0 k l0 a1 y425 (!t429))) else (spec_ComplementWord.j0 k l0 a1 y425 true))) = some (r1, r2) := zY hy425 H
 have Ny425 := Aside0.mk hy425
 clear hy425
 have HC3 := Aside0.mk H
 clear H
 go_enter Tryz.func11, Tryz.ntmps11
 go_upto_region 2 with (first | ((with_reducible refine gate_dst (N := 8) rfl ?_); refine Kd.R_lit (Kd.int .i64) _ 3 ?hg (N := 8) ?hd (xs := ([] : List Int)) (inner := []) (ok := fun _ => True) (okp := fun _ => True) ?hr ?hp (fun _ hk => hk) trivial (Below.refl _ _) (Nat.le_refl _) (by simp) ?_; (case hd => rfl); (case hg => rfl); (case hr => first | (go_simp; done) | (go_simp; rfl)); (case hp => exact (Reps.none _ _)); intro v426 w4 ho5 hb hg_ hnew_; clear hg_ hnew_; (first | rw [← Ny425.out] at ho5 | (simp only [Int.reduceToNat] at ho5; rw [← Ny425.out] at ho5)); have n0_ := Aside0.mk (Kd.R_lower ho5 (below_size (zB HB.out))); have n1_ := Aside0.mk (below_step (zB HB.out) hb); clear HB; have HO427 := n0_; have HB := n1_; clear n0_ n1_; clear hb ho5))
 (try simp only [Act.put, List.setIfInBounds_toArray, List.set_cons_zero, List.set_cons_succ])
 go_cut [16] (fun v16 wc => ∃ (kq : Nat) (x16_2 : Bool), v16 = .bool x16_2 ∧ Aside0 (spec_ComplementWord.j0 kq l0 a1 y425 x16_2 = some (r1, r2)) ∧ Aside0 (kq ≤ k) ∧ Aside0 (Kd.R (Kd.int .i64) 3 wc w.heap.size (fun _ => True) v426 y425) ∧ Aside0 (Below w.heap.size w wc))
 case first =>
  have H := HC3.out
  clear HC3
  replace H := Option.bind_eq_some_iff.mp H
  obtain ⟨t428, A60, H⟩ := H
  replace H : (if t428 = true then ((spec_l1In.f a1 1 9).bind fun t429 => (spec_ComplementWord.j0 k l0 a1 y425 (!t429))) else (spec_ComplementWord.j0 k l0 a1 y425 true)) = some (r1, r2) := H
  have A6 := Aside0.mk A60
  clear A60
  by_cases c7 : t428 = true
  ·subst c7
   have H1 : ((spec_l1In.f a1 1 9).bind fun t429 => (spec_ComplementWord.j0 k l0 a1 y425 (!t429))) = some (r1, r2) := by rw [if_pos rfl] at H; exact H
   clear H
   have H := H1
   clear H1
   replace H := Option.bind_eq_some_iff.mp H
   obtain ⟨t429, A80, H⟩ := H
   replace H : (spec_ComplementWord.j0 k l0 a1 y425 (!t429)) = some (r1, r2) := H
   have A8 := Aside0.mk A80
   clear A80
   have H' := Aside0.mk H
   clear H
   go_wp2_with (first | ((with_reducible refine gate_callee (f := 22) rfl ?_); refine zG (some 10) Tryz.func22 #[.slice A0 l0.length c0] ?_; (with_reducible refine (spec_IsWord.calls k _ _ l0 true _ ?side1 ?side2 A6.out).mono ?_); (case side1 => exact zQ (Kd.C_below HR0.out HB.out)); (case side2 => exact HC0.out); rintro e w' ⟨rfl, ⟨nd, rfl⟩⟩; refine ⟨_, rfl, ?_⟩) | (go_at_call 40; (with_reducible refine (spec_l1In.calls a1 1 9 t429 _ A8.out).mono ?_); rintro e w' ⟨rfl, ⟨nd, rfl⟩⟩))
   go_meet
   case rel => exact ⟨_, (!t429), zs, H', ⟨by first | omega | exact Nat.le_refl _⟩, ⟨zR HO427.out⟩, ⟨zB HB.out⟩⟩
  ·replace c7 := Bool.eq_false_iff.mpr c7
   subst c7
   have H1 : (spec_ComplementWord.j0 k l0 a1 y425 true) = some (r1, r2) := by rw [if_neg (show ¬ (false = true) by decide)] at H; exact H
   clear H
   have H := H1
   clear H1
   have H' := Aside0.mk H
   clear H
   go_wp2_with (first | ((with_reducible refine gate_callee (f := 22) rfl ?_); refine zG (some 10) Tryz.func22 #[.slice A0 l0.length c0] ?_; (with_reducible refine (spec_IsWord.calls k _ _ l0 false _ ?side1 ?side2 A6.out).mono ?_); (case side1 => exact zQ (Kd.C_below HR0.out HB.out)); (case side2 => exact HC0.out); rintro e w' ⟨rfl, ⟨nd, rfl⟩⟩; refine ⟨_, rfl, ?_⟩))
   go_meet
   case rel => exact ⟨_, (true), zs, H', ⟨by first | omega | exact Nat.le_refl _⟩, ⟨zR HO427.out⟩, ⟨zB HB.out⟩⟩
 case rest =>
  clear HC3
  try clear c1
  try clear c2
  try clear p2
  try clear c7
  obtain ⟨kq, x16_2, rfl, HA, HJ2, HO_6, HB⟩ := hcut
  cases kq with
  | zero => exact absurd HA.out (by simp [spec_ComplementWord.j0])
  | succ kj2 =>
   have H := HA.out
   clear HA
   simp only [spec_ComplementWord.j0] at H
   by_cases c9 : x16_2 = true
   ·subst c9
    have H1 : (some (y425, false)) = some (r1, r2) := by rw [if_pos rfl] at H; exact H
    clear H
    have H := H1
    clear H1
    simp only [Option.some.injEq, Prod.mk.injEq] at H
    obtain ⟨rfl, rfl⟩ := H
    go_wp2
    go_ret2
    exact ⟨_, zr, zR HO_6.out, zB HB.out⟩
   ·replace c9 := Bool.eq_false_iff.mpr c9
    subst c9
    have H1 : (spec_ComplementWord.l0 kj2 l0 a1 y425 0) = some (r1, r2) := by rw [if_neg (show ¬ (false = true) by decide)] at H; exact H
    clear H
    have H := H1
    clear H1
    have H' := Aside0.mk H
    clear H
    go_wp2
    go_loopg [6, 7] kj2 (fun kq v6 v7 w' => ∃ (x6_2 : List Int) (x7_2 : Int), v7 = .int .i64 x7_2 ∧ Aside0 (spec_ComplementWord.l0 kq l0 a1 x6_2 x7_2 = some (r1, r2)) ∧ Aside0 (kq ≤ kj2) ∧ Aside0 (Kd.R (Kd.int .i64) 3 w' w.heap.size (fun _ => True) v6 x6_2) ∧ Aside0 (Below w.heap.size w w'))
    case atStart => exact ⟨(y425), (0), zs, H', ⟨Nat.le_refl _⟩, ⟨zR HO_6.out⟩, ⟨zB HB.out⟩⟩
    case round =>
     clear H'
     try clear c1
     try clear c2
     try clear p2
     try clear c7
     try clear c9
     try clear p2
     obtain ⟨x6_2, x7_2, rfl, HA, HK2, HO_6, HB⟩ := hrel
     cases gk with
     | zero => exact absurd HA.out (by simp [spec_ComplementWord.l0])
     | succ k2 =>
      have H := HA.out
      clear HA
      simp only [spec_ComplementWord.l0] at H
      by_cases c10 : x7_2 < (l0.length : Int)
      ·rw [if_pos c10] at H
       have c10b0 : decide (x7_2 < (l0.length : Int)) = true := decide_eq_true c10
       clear c10
       by_cases c11 : 0 ≤ x7_2
       ·rw [if_pos c11] at H
        have c11b0 : decide (0 ≤ x7_2) = true := decide_eq_true c11
        clear c11
        by_cases c12 : (rd l0 x7_2) > a1
        ·rw [if_pos c12] at H
         have c12b0 : decide (a1 < (rd l0 x7_2)) = true := decide_eq_true c12
         clear c12
         obtain ⟨y431, hy431⟩ : ∃ y_ : List Int, y_ = (([] : List Int)) := ⟨_, rfl⟩
         replace H : (some (y431, false)) = some (r1, r2) := zY hy431 H
         have Ny431 := Aside0.mk hy431
         clear hy431
         simp only [Option.some.injEq, Prod.mk.injEq] at H
         obtain ⟨rfl, rfl⟩ := H
         have p430 : 0 ≤ (x7_2 : Int) := zd
         have q430 : x7_2 < (l0.length : Int) := zd
         obtain ⟨ad430, e430, hx430_0⟩ := Kd.at_int HR0.out x7_2 p430 q430
         cases e430
         replace hx430_0 := (HB.out.cell (World.block_lt_of_cell? w _ hx430_0)).trans hx430_0
         replace p430 := eq_true p430
         replace q430 := eq_true q430
         go_wp2_with (first | ((with_reducible refine gate_dst (N := 30) rfl ?_); refine Kd.R_lit (Kd.int .i64) _ 3 ?hg (N := 30) ?hd (xs := ([] : List Int)) (inner := []) (ok := fun _ => True) (okp := fun _ => True) ?hr ?hp (fun _ hk => hk) trivial (Below.refl _ _) (Nat.le_refl _) (by simp) ?_; (case hd => rfl); (case hg => rfl); (case hr => first | (go_simp; done) | (go_simp; rfl)); (case hp => exact (Reps.none _ _)); intro v432 w13 ho14 hb hg_ hnew_; clear hg_ hnew_; (first | rw [← Ny431.out] at ho14 | (simp only [Int.reduceToNat] at ho14; rw [← Ny431.out] at ho14)); have n0_ := Aside0.mk (Kd.R_elder' (zR HO_6.out) (Kd.R_base ho14) hb); have n1_ := Aside0.mk (Kd.R_lower (Kd.R_new' ho14 (Kd.R_lt (zR HO_6.out))) (below_size (zB HB.out))); have n2_ := Aside0.mk (below_step (zB HB.out) hb); clear HO_6; clear HB; have HO_6 := n0_; have HO433 := n1_; have HB := n2_; clear n0_ n1_ n2_; clear hb ho14))
         go_ret2
         exact ⟨_, zr, zR (Kd.R_mono HO433.out (fun _ hk => trivial)), zB HB.out⟩
        ·rw [if_neg c12] at H
         have c12b0 : decide (a1 < (rd l0 x7_2)) = false := decide_eq_false c12
         clear c12
         by_cases c15 : x6_2.length < 17592186044416
         ·rw [if_pos c15] at H
          have LMc15 := Aside0.mk c15
          clear c15
          obtain ⟨y435, hy435⟩ : ∃ y_ : List Int, y_ = (x6_2 ++ [wrap64 ((wrap64 (a1 + 1)) - (rd l0 x7_2))]) := ⟨_, rfl⟩
          replace H : (spec_ComplementWord.l0 k2 l0 a1 y435 (wrap64 (x7_2 + 1))) = some (r1, r2) := zY hy435 H
          have Ny435 := Aside0.mk hy435
          clear hy435
          have H' := Aside0.mk H
          clear H
          have p430 : 0 ≤ (x7_2 : Int) := zd
          have q430 : x7_2 < (l0.length : Int) := zd
          obtain ⟨ad430, e430, hx430_0⟩ := Kd.at_int HR0.out x7_2 p430 q430
          cases e430
          replace hx430_0 := (HB.out.cell (World.block_lt_of_cell? w _ hx430_0)).trans hx430_0
          replace p430 := eq_true p430
          replace q430 := eq_true q430
          have p434 : 0 ≤ (x7_2 : Int) := zd
          have q434 : x7_2 < (l0.length : Int) := zd
          obtain ⟨ad434, e434, hx434_0⟩ := Kd.at_int HR0.out x7_2 p434 q434
          obtain rfl : ad430 = ad434 := (by injection e434)
          replace hx434_0 := (HB.out.cell (World.block_lt_of_cell? w _ hx434_0)).trans hx434_0
          replace p434 := eq_true p434
          replace q434 := eq_true q434
          go_wp2_with (first | ((with_reducible refine gate_builtin (b := .append) (xs := #[.tmp 31, .tmp 39]) rfl ?_); at_builtin; refine Kd.R_append (Kd.int .i64) (w0 := w) w.heap.size rfl (.tmp 31) (.tmp 39) 24 3 (.int .i64 0) 8 rfl Tryz.underlying24 info3 rfl (by decide) (by omega) u6 x6_2 (wrap64 ((wrap64 (a1 + 1)) - (rd l0 x7_2))) [.int .i64 (wrap64 ((wrap64 (a1 + 1)) - (rd l0 x7_2)))] (fun _ => True) (fun _ => False) rfl rfl ?aP (fun _ hk => hk.elim) ?aF ?aO ?aB ?aS ?aL ?_; (case aP => exact rfl); (case aB => exact (zB HB.out)); (case aF => exact (fun _ _ => trivial)); (case aO => exact (zR HO_6.out)); (case aS => exact (below_size (zB HB.out))); (case aL => have := LMc15.out; omega); intro v436 w16 ho hb hg hat; rw [← Ny435.out] at ho; have n0_ := Aside0.mk (hb); have n1_ := Aside0.mk (ho); clear HB; clear HO_6; have HB := n0_; have HO437 := n1_; clear n0_ n1_; clear ho hb hg hat))
          go_roundg k2
          case measure => have := HJ2.out; have := HK2.out; omega
          case rel => exact ⟨(y435), (wrap64 (x7_2 + 1)), zs, H', ⟨by have := HJ2.out; have := HK2.out; omega⟩, ⟨zR HO437.out⟩, ⟨zB HB.out⟩⟩
         ·rw [if_neg c15] at H
          exact absurd H (by simp)
       ·rw [if_neg c11] at H
        exact absurd H (by simp)
      ·rw [if_neg c10] at H
       have c10b0 : decide (x7_2 < (l0.length : Int)) = false := decide_eq_false c10
       clear c10
       simp only [Option.some.injEq, Prod.mk.injEq] at H
       obtain ⟨rfl, rfl⟩ := H
       go_wp2
       go_ret2
       exact ⟨_, zr, zR HO_6.out, zB HB.out⟩

def spec_FormatInt.l0 : Nat → Int → Bool → ByteArray → Option (ByteArray)
 | 0, _, _, _ => none
 | k + 1, x0, x3, x4 => if x0 = 0 then (if x3 = true then (if 1 + x4.size ≤ 9223372036854775807 then (some ((⟨#[45]⟩ : ByteArray) ++ x4)) else (none)) else (some x4)) else (if (Int.tmod x0 10) < 0 then ((some (([(wrap64 (48 + (wrap64 (-(Int.tmod x0 10))))) % 256] : List Int) : List Int)).bind fun y438 => (if (strOfNums y438).size + x4.size ≤ 9223372036854775807 then (spec_FormatInt.l0 k (wrap64 (Int.tdiv x0 10)) x3 ((strOfNums y438) ++ x4)) else (none))) else ((some (([(wrap64 (48 + (Int.tmod x0 10))) % 256] : List Int) : List Int)).bind fun y441 => (if (strOfNums y441).size + x4.size ≤ 9223372036854775807 then (spec_FormatInt.l0 k (wrap64 (Int.tdiv x0 10)) x3 ((strOfNums y441) ++ x4)) else (none))))
def spec_FormatInt.f (k : Nat) (a0 : Int) : Option (ByteArray) := if a0 = 0 then (some (⟨#[48]⟩ : ByteArray)) else (spec_FormatInt.l0 k a0 (decide (a0 < 0)) (⟨#[]⟩ : ByteArray))
set_option maxHeartbeats 8000000 in
set_option maxRecDepth 100000 in
theorem spec_FormatInt.calls (k : Nat) (a0 : Int) (r : ByteArray) (w : World) (h : spec_FormatInt.f k a0 = some r) :
  Calls Tryz.prog 52 #[.int .i64 a0] w fun e w' => e = .returned (.string r) ∧ Below w.heap.size w w' := by
 have HB := Aside0.mk (Below.refl w.heap.size w)
 have H : (if a0 = 0 then (some (⟨#[48]⟩ : ByteArray)) else (spec_FormatInt.l0 k a0 (decide (a0 < 0)) (⟨#[]⟩ : ByteArray))) = some r := h
 clear h
 by_cases c2 : a0 = 0
 ·rw [if_pos c2] at H
  have c2b0 : (a0 == 0) = true := beq_iff_eq.mpr c2
  have c2b1 : (a0 != 0) = false := bne_eq_false_iff_eq.mpr c2
  clear c2
  obtain rfl := Option.some.inj H
  go_enter Tryz.func52, Tryz.ntmps52
  go_wp2
  go_ret
  exact ⟨zr, zB HB.out⟩
 ·rw [if_neg c2] at H
  have c2b0 : (a0 == 0) = false := beq_eq_false_iff_ne.mpr c2
  have c2b1 : (a0 != 0) = true := bne_iff_ne.mpr c2
  have H' := Aside0.mk H
  clear H
  go_enter Tryz.func52, Tryz.ntmps52
  go_wp2
  go_loopg [0, 4] k (fun kq v0 v4 w' => ∃ (x0_1 : Int) (x4_1 : ByteArray), v0 = .int .i64 x0_1 ∧ v4 = .string x4_1 ∧ Aside0 (spec_FormatInt.l0 kq x0_1 (decide (a0 < 0)) x4_1 = some r) ∧ Aside0 (kq ≤ k) ∧ Aside0 (Below w.heap.size w w'))
  case atStart => exact ⟨(a0), ((⟨#[]⟩ : ByteArray)), zs, zs, H', ⟨Nat.le_refl _⟩, ⟨zB HB.out⟩⟩
  case round =>
   clear H'
   try clear c2
   try clear c2b0
   try clear c2b1
   try clear p2
   obtain ⟨x0_1, x4_1, rfl, rfl, HA, HK1, HB⟩ := hrel
   cases gk with
   | zero => exact absurd HA.out (by simp [spec_FormatInt.l0])
   | succ k1 =>
    have H := HA.out
    clear HA
    simp only [spec_FormatInt.l0] at H
    by_cases c3 : x0_1 = 0
    ·rw [if_pos c3] at H
     have c3b0 : (x0_1 == 0) = true := beq_iff_eq.mpr c3
     have c3b1 : (x0_1 != 0) = false := bne_eq_false_iff_eq.mpr c3
     clear c3
     by_cases c4 : (decide (a0 < 0)) = true
     ·rw [if_pos c4] at H
      have c4b0 : (decide (a0 < 0)) = true := c4
      clear c4
      by_cases c5 : 1 + x4_1.size ≤ 9223372036854775807
      ·rw [if_pos c5] at H
       have c5b0 := eq_true c5
       have c5b1 : decide (1 + x4_1.size ≤ 9223372036854775807) = true := decide_eq_true c5
       try have c5b2 : (9223372036854775807 < 1 + x4_1.size) = False := eq_false (Nat.not_lt.2 c5)
       obtain rfl := Option.some.inj H
       go_wp2
       all_goals try (exfalso; simp only [decide_eq_true_eq, decide_eq_false_iff_not] at c4b0; omega)
       go_ret
       exact ⟨zr, zB HB.out⟩
      ·rw [if_neg c5] at H
       exact absurd H (by simp)
     ·rw [if_neg c4] at H
      have c4b0 : (decide (a0 < 0)) = false := by simpa using c4
      clear c4
      obtain rfl := Option.some.inj H
      go_wp2
      all_goals try (exfalso; simp only [decide_eq_true_eq, decide_eq_false_iff_not] at c4b0; omega)
      go_ret
      exact ⟨zr, zB HB.out⟩
    ·rw [if_neg c3] at H
     have c3b0 : (x0_1 == 0) = false := beq_eq_false_iff_ne.mpr c3
     have c3b1 : (x0_1 != 0) = true := bne_iff_ne.mpr c3
     by_cases c6 : (Int.tmod x0_1 10) < 0
     ·rw [if_pos c6] at H
      have c6b0 : decide ((Int.tmod x0_1 10) < 0) = true := decide_eq_true c6
      clear c6
      obtain ⟨y438, hy438⟩ : ∃ y_ : List Int, y_ = (([(wrap64 (48 + (wrap64 (-(Int.tmod x0_1 10))))) % 256] : List Int)) := ⟨_, rfl⟩
      replace H : (if (strOfNums y438).size + x4_1.size ≤ 9223372036854775807 then (spec_FormatInt.l0 k1 (wrap64 (Int.tdiv x0_1 10)) (decide (a0 < 0)) ((strOfNums y438) ++ x4_1)) else (none)) = some r := zY hy438 H
      have Ny438 := Aside0.mk hy438
      clear hy438
      by_cases c7 : (strOfNums y438).size + x4_1.size ≤ 9223372036854775807
      ·rw [if_pos c7] at H
       have c7b0 := eq_true c7
       have c7b1 : decide ((strOfNums y438).size + x4_1.size ≤ 9223372036854775807) = true := decide_eq_true c7
       try have c7b2 : (9223372036854775807 < (strOfNums y438).size + x4_1.size) = False := eq_false (Nat.not_lt.2 c7)
       have H' := Aside0.mk H
       clear H
       go_wp2_with (first | ((with_reducible refine gate_dst (N := 21) rfl ?_); refine Kd.R_lit (Kd.int .u8) _ 5 ?hg (N := 21) ?hd (xs := ([(wrap64 (48 + (wrap64 (-(Int.tmod x0_1 10))))) % 256] : List Int)) (inner := [.int .u8 ((wrap64 (48 + (wrap64 (-(Int.tmod x0_1 10))))) % 256)]) (ok := fun _ => True) (okp := fun _ => True) ?hr ?hp (fun _ hk => hk) trivial (Below.refl _ _) (Nat.le_refl _) (by simp) ?_; (case hd => rfl); (case hg => rfl); (case hr => first | (go_simp; done) | (go_simp; rfl)); (case hp => exact (Reps.one (show Kd.M (Kd.int .u8) _ _ _ ((wrap64 (48 + (wrap64 (-(Int.tmod x0_1 10))))) % 256) [.int .u8 ((wrap64 (48 + (wrap64 (-(Int.tmod x0_1 10))))) % 256)] from rfl) (Reps.none _ _))); intro v439 w8 ho9 hb hg_ hnew_; clear hg_ hnew_; (first | rw [← Ny438.out] at ho9 | (simp only [Int.reduceToNat] at ho9; rw [← Ny438.out] at ho9)); have n0_ := Aside0.mk (Kd.R_lower ho9 (below_size (zB HB.out))); have n1_ := Aside0.mk (below_step (zB HB.out) hb); clear HB; have HO440 := n0_; have HB := n1_; clear n0_ n1_; clear hb ho9; have hcv10 := own_string (P := Tryz.prog) Tryz.underlying22 Tryz.underlying5 Tryz.underlying9 (Kd.own_of_R HO440.out)))
       go_roundg k1
       case measure => have := HK1.out; omega
       case rel => exact ⟨(wrap64 (Int.tdiv x0_1 10)), ((strOfNums y438) ++ x4_1), zs, zs, H', ⟨by have := HK1.out; omega⟩, ⟨zB HB.out⟩⟩
      ·rw [if_neg c7] at H
       exact absurd H (by simp)
     ·rw [if_neg c6] at H
      have c6b0 : decide ((Int.tmod x0_1 10) < 0) = false := decide_eq_false c6
      clear c6
      obtain ⟨y441, hy441⟩ : ∃ y_ : List Int, y_ = (([(wrap64 (48 + (Int.tmod x0_1 10))) % 256] : List Int)) := ⟨_, rfl⟩
      replace H : (if (strOfNums y441).size + x4_1.size ≤ 9223372036854775807 then (spec_FormatInt.l0 k1 (wrap64 (Int.tdiv x0_1 10)) (decide (a0 < 0)) ((strOfNums y441) ++ x4_1)) else (none)) = some r := zY hy441 H
      have Ny441 := Aside0.mk hy441
      clear hy441
      by_cases c11 : (strOfNums y441).size + x4_1.size ≤ 9223372036854775807
      ·rw [if_pos c11] at H
       have c11b0 := eq_true c11
       have c11b1 : decide ((strOfNums y441).size + x4_1.size ≤ 9223372036854775807) = true := decide_eq_true c11
       try have c11b2 : (9223372036854775807 < (strOfNums y441).size + x4_1.size) = False := eq_false (Nat.not_lt.2 c11)
       have H' := Aside0.mk H
       clear H
       go_wp2_with (first | ((with_reducible refine gate_dst (N := 21) rfl ?_); refine Kd.R_lit (Kd.int .u8) _ 5 ?hg (N := 21) ?hd (xs := ([(wrap64 (48 + (Int.tmod x0_1 10))) % 256] : List Int)) (inner := [.int .u8 ((wrap64 (48 + (Int.tmod x0_1 10))) % 256)]) (ok := fun _ => True) (okp := fun _ => True) ?hr ?hp (fun _ hk => hk) trivial (Below.refl _ _) (Nat.le_refl _) (by simp) ?_; (case hd => rfl); (case hg => rfl); (case hr => first | (go_simp; done) | (go_simp; rfl)); (case hp => exact (Reps.one (show Kd.M (Kd.int .u8) _ _ _ ((wrap64 (48 + (Int.tmod x0_1 10))) % 256) [.int .u8 ((wrap64 (48 + (Int.tmod x0_1 10))) % 256)] from rfl) (Reps.none _ _))); intro v442 w12 ho13 hb hg_ hnew_; clear hg_ hnew_; (first | rw [← Ny441.out] at ho13 | (simp only [Int.reduceToNat] at ho13; rw [← Ny441.out] at ho13)); have n0_ := Aside0.mk (Kd.R_lower ho13 (below_size (zB HB.out))); have n1_ := Aside0.mk (below_step (zB HB.out) hb); clear HB; have HO443 := n0_; have HB := n1_; clear n0_ n1_; clear hb ho13; have hcv14 := own_string (P := Tryz.prog) Tryz.underlying22 Tryz.underlying5 Tryz.underlying9 (Kd.own_of_R HO443.out)))
       go_roundg k1
       case measure => have := HK1.out; omega
       case rel => exact ⟨(wrap64 (Int.tdiv x0_1 10)), ((strOfNums y441) ++ x4_1), zs, zs, H', ⟨by have := HK1.out; omega⟩, ⟨zB HB.out⟩⟩
      ·rw [if_neg c11] at H
       exact absurd H (by simp)

end Go.Proofs.YtpandocpclecgaaGreatDoor.F
