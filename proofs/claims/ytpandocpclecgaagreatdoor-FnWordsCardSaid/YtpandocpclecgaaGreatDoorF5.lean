/- For each Go function named below: the plain Lean function that it computes, and that its call returns just that; conditions: those that each theorem names. -/
import Derived.Test.YtpandocpclecgaaGreatDoorF0
import Derived.Test.YtpandocpclecgaaGreatDoorF1
import Derived.Test.YtpandocpclecgaaGreatDoorF3
import Derived.Test.YtpandocpclecgaaGreatDoorF4
namespace Go.Proofs.YtpandocpclecgaaGreatDoor.F
open Go.RowKit Go.Proofs.YtpandocpclecgaaGreatDoorW.PrintWords Go.Proofs.YtpandocpclecgaaGreatDoorW.PrintLast Go.Proofs.YtpandocpclecgaaGreatDoorW.PrintMore
attribute [local go_sem] max2_int min2_int max_two min_two max_three min_three max_four min_four   -- for this text's walks alone
set_option linter.unusedVariables false
set_option linter.unusedSimpArgs false

mutual
def spec_IsTableau.l0 : Nat → Int → List Int → List (List Int) → List Int → List Int → Option (Bool)
 | 0, _, _, _, _, _ => none
 | k + 1, x5, x241000, x241001, x249000, x249001 => if x5 < (x249000.length : Int) then ((spec_l2At.f x249001 x5).bind fun t249 => (spec_IsTableau.l1 k x5 t249 x241000 x241001 x249000 x249001)) else (some true)
def spec_IsTableau.l1 : Nat → Int → Int → List Int → List (List Int) → List Int → List Int → Option (Bool)
 | 0, _, _, _, _, _, _ => none
 | k + 1, x5, x6, x241000, x241001, x249000, x249001 => if 0 ≤ x5 then (if x5 < (x249000.length : Int) then (if x6 < (rd x249000 x5) then ((spec_l5Entry.f k x241000 x241001 x5 x6).bind fun t251 => (if x6 > 0 then ((spec_l5Entry.f k x241000 x241001 x5 (wrap64 (x6 - 1))).bind fun t252 => (spec_IsTableau.j2 k x5 x6 t251 t252 x241000 x241001 x249000 x249001)) else (spec_IsTableau.j2 k x5 x6 t251 0 x241000 x241001 x249000 x249001))) else (spec_IsTableau.l0 k (wrap64 (x5 + 1)) x241000 x241001 x249000 x249001)) else (none)) else (none)
def spec_IsTableau.j2 : Nat → Int → Int → Int → Int → List Int → List (List Int) → List Int → List Int → Option (Bool)
 | 0, _, _, _, _, _, _, _, _ => none
 | k + 1, x5, x6, x7, x8, x241000, x241001, x249000, x249001 => (spec_l1In.f x7 1 9).bind fun t253 => (if t253 = true then (if x8 > x7 then (some false) else ((spec_l5Entry.f k x241000 x241001 (wrap64 (x5 - 1)) x6).bind fun t254 => (if t254 ≥ x7 then (some false) else (spec_IsTableau.l1 k x5 (wrap64 (x6 + 1)) x241000 x241001 x249000 x249001)))) else (some false))
end
def spec_IsTableau.f (k : Nat) (l0_0 : List Int) (l0_1 : List (List Int)) : Option (Bool) := (spec_ShapeOf.f k l0_0 l0_1).bind fun bt241 => (if bt241.2.2 = true then (spec_IsTableau.l0 k 0 l0_0 l0_1 bt241.1 bt241.2.1) else (some false))
set_option maxHeartbeats 8000000 in
set_option maxRecDepth 100000 in
theorem spec_IsTableau.calls (k : Nat) (A0_0 : Option Addr) (c0_0 : Nat) (l0_0 : List Int) (A0_1 : Option Addr) (c0_1 : Nat) (l0_1 : List (List Int)) (r : Bool) (w : World) (hr0_0 : Kd.C (Kd.int .i64) w A0_0 l0_0.length l0_0) (hc0_0 : l0_0.length ≤ c0_0) (hr0_1 : Kd.C (Kd.slice 3 (Kd.int .i64)) w A0_1 l0_1.length l0_1) (hc0_1 : l0_1.length ≤ c0_1) (h : spec_IsTableau.f k l0_0 l0_1 = some r) :
  Calls Tryz.prog 46 #[.agg #[.slice A0_0 l0_0.length c0_0, .slice A0_1 l0_1.length c0_1]] w fun e w' => e = .returned (.bool r) ∧ Below w.heap.size w w' := by
 have hu29 := Tryz.underlying29
 have hu74 := Tryz.underlying74
 have HR0_0 := Aside0.mk hr0_0
 have HC0_0 := Aside0.mk hc0_0
 clear hr0_0 hc0_0
 have HR0_1 := Aside0.mk hr0_1
 have HC0_1 := Aside0.mk hc0_1
 clear hr0_1 hc0_1
 have HB := Aside0.mk (Below.refl w.heap.size w)
 have H : ((spec_ShapeOf.f k l0_0 l0_1).bind fun bt241 => (if bt241.2.2 = true then (spec_IsTableau.l0 k 0 l0_0 l0_1 bt241.1 bt241.2.1) else (some false))) = some r := h
 clear h
 replace H := Option.bind_eq_some_iff.mp H
 obtain ⟨⟨t241, t244, t247⟩, A20, H⟩ := H
 replace H : (if t247 = true then (spec_IsTableau.l0 k 0 l0_0 l0_1 t241 t244) else (some false)) = some r := H
 have A2 := Aside0.mk A20
 clear A20
 by_cases c3 : t247 = true
 ·subst c3
  have H1 : (spec_IsTableau.l0 k 0 l0_0 l0_1 t241 t244) = some r := by rw [if_pos rfl] at H; exact H
  clear H
  have H := H1
  clear H1
  have H' := Aside0.mk H
  clear H
  go_enter Tryz.func46, Tryz.ntmps46
  go_wp2_with (first | ((with_reducible refine gate_dst (N := 1) rfl ?_); refine zX (N := 1) (cs := #[.slice A0_0 l0_0.length c0_0, .slice A0_1 l0_1.length c0_1]) (t := 29) ?_; intro gb240 hg w4 hbox hb; have n0_ := Aside0.mk (below_step (zB HB.out) hb); have n1_ := Aside0.mk (hbox); have n2_ := Aside0.mk ((by rw [hg]; exact (below_size (zB HB.out)) : w.heap.size ≤ gb240)); have n3_ := Aside0.mk ((by rw [hg]; exact (below_size (zB HB.out)) : w.heap.size ≤ gb240)); clear HB; have HB := n0_; have BK240 := n1_; have GW240 := n2_; have GE240 := n3_; clear n0_ n1_ n2_ n3_; clear hb hbox hg; have hcz5_0 : w4.cell? ⟨gb240, 0, none⟩ = some (.slice A0_0 l0_0.length c0_0) := (blk_cell BK240.out 0).trans rfl; have hcz5_1 : w4.cell? ⟨gb240, 1, none⟩ = some (.slice A0_1 l0_1.length c0_1) := (blk_cell BK240.out 1).trans rfl; have hfz5_0 := blk_frozen BK240.out 0; have hfz5_1 := blk_frozen BK240.out 1) | ((with_reducible refine gate_callee (f := 64) rfl ?_); refine zG (some 11) Tryz.func64 #[.agg #[.slice A0_0 l0_0.length c0_0, .slice A0_1 l0_1.length c0_1]] ?_; (with_reducible refine (spec_ShapeOf.calls k _ _ l0_0 _ _ l0_1 t241 t244 true _ ?side1 ?side2 ?side3 ?side4 A2.out).mono ?_); (case side1 => exact zQ (Kd.C_below HR0_0.out HB.out)); (case side2 => exact HC0_0.out); (case side3 => exact zQ (Kd.C_below HR0_1.out HB.out)); (case side4 => exact HC0_1.out); rintro e w6 ⟨v242, v245, rfl, ho0, ho1, hb⟩; refine ⟨_, rfl, ?_⟩; have n0_ := Aside0.mk (Kd.R_lower ho0 (below_size (zB1 HB.out GE240.out))); have n1_ := Aside0.mk (Kd.R_lower ho1 (below_size (zB1 HB.out GE240.out))); have n2_ := Aside0.mk (blk_below (g := gb240) (o := .cells #[.slice A0_0 l0_0.length c0_0, .slice A0_1 l0_1.length c0_1] 29 (0, 0)) (zH BK240.out) hb); have n3_ := Aside0.mk (below_step (zB1 HB.out GE240.out) hb); clear BK240; clear HB; have HO243 := n0_; have HO246 := n1_; have BK240 := n2_; have HB := n3_; clear n0_ n1_ n2_ n3_; (try clear hb); (try clear hb2); (try clear hk); (try clear hi); (try clear ho0); (try clear ho1)) | ((with_reducible refine gate_dst (N := 3) rfl ?_); refine zX (N := 3) (cs := #[.slice none 0 0, .slice none 0 0]) (t := 74) ?_; intro gb248 hg w7 hbox hb; have n0_ := Aside0.mk (Kd.R_below (zR HO243.out) hb); have n1_ := Aside0.mk (Kd.R_below (zR HO246.out) hb); have n2_ := Aside0.mk (blk_below (g := gb240) (o := .cells #[.slice A0_0 l0_0.length c0_0, .slice A0_1 l0_1.length c0_1] 29 (0, 0)) (zH BK240.out) hb); have n3_ := Aside0.mk (below_step (zB1 HB.out GE240.out) hb); have n4_ := Aside0.mk (hbox); have n5_ := Aside0.mk ((by rw [hg]; exact (below_size (zB1 HB.out GE240.out)) : w.heap.size ≤ gb248)); have n6_ := Aside0.mk ((by rw [hg]; exact (below_size (zB1 HB.out GE240.out)) : w.heap.size ≤ gb248)); have n7_ := Aside0.mk ((by rw [hg]; exact Nat.ne_of_lt (blk_lt (g := gb240) (o := .cells #[.slice A0_0 l0_0.length c0_0, .slice A0_1 l0_1.length c0_1] 29 (0, 0)) (zH BK240.out)) : gb240 ≠ gb248)); have n8_ := Aside0.mk ((by rw [hg]; exact Nat.ne_of_gt (blk_lt (g := gb240) (o := .cells #[.slice A0_0 l0_0.length c0_0, .slice A0_1 l0_1.length c0_1] 29 (0, 0)) (zH BK240.out)) : gb248 ≠ gb240)); clear HO243; clear HO246; clear BK240; clear HB; have HO243 := n0_; have HO246 := n1_; have BK240 := n2_; have HB := n3_; have BK248 := n4_; have GW248 := n5_; have GE248 := n6_; have NB240_248 := n7_; have NB248_240 := n8_; clear n0_ n1_ n2_ n3_ n4_ n5_ n6_ n7_ n8_; clear hb hbox hg; obtain ⟨Ao8, co8, eo8⟩ := Kd.R_slice HO243.out; subst eo8; have hnb9 := NB248_240.out; have hnc9 := NB240_248.out; have hcz10_0 : w7.cell? ⟨gb248, 0, none⟩ = some (.slice none 0 0) := (blk_cell BK248.out 0).trans rfl; have hcz10_1 : w7.cell? ⟨gb248, 1, none⟩ = some (.slice none 0 0) := (blk_cell BK248.out 1).trans rfl; have hfz10_0 := blk_frozen BK248.out 0; have hfz10_1 := blk_frozen BK248.out 1; obtain ⟨Ao11, co11, eo11⟩ := Kd.R_slice HO246.out; subst eo11))
  go_loopg [5] k (fun kq v5 w' => ∃ (x5_1 : Int), v5 = .int .i64 x5_1 ∧ Aside0 (spec_IsTableau.l0 kq x5_1 l0_0 l0_1 t241 t244 = some r) ∧ Aside0 (kq ≤ k) ∧ Aside0 (Kd.R (Kd.int .i64) 3 w' w.heap.size (fun k_ => some k_ ≠ ((.slice Ao11 t244.length co11) : Value).ownBlock) (.slice Ao8 t241.length co8) t241) ∧ Aside0 (Kd.R (Kd.int .i64) 3 w' w.heap.size (fun k_ => some k_ ≠ ((.slice Ao8 t241.length co8) : Value).ownBlock) (.slice Ao11 t244.length co11) t244) ∧ Aside0 (w'.heap[gb240]? = some (.cells #[(.slice A0_0 l0_0.length c0_0), (.slice A0_1 l0_1.length c0_1)] 29 (0, 0))) ∧ Aside0 (w'.heap[gb248]? = some (.cells #[(.slice Ao8 t241.length co8), (.slice Ao11 t244.length co11)] 74 (0, 0))) ∧ Aside0 (Below w.heap.size w w'))
  case atStart => exact ⟨(0), zs, H', ⟨Nat.le_refl _⟩, ⟨zR (Kd.R_mono (Kd.R_far (p := ⟨gb248, 1, none⟩) (Kd.R_far (p := ⟨gb248, 0, none⟩) (Kd.R_types HO243.out BK248.out (by decide)) (fun _ hk => hk.2) (.slice Ao8 t241.length co8)) (fun _ hk => hk.2) (.slice Ao11 t244.length co11)) (fun _ hk => hk.1))⟩, ⟨zR (Kd.R_mono (Kd.R_far (p := ⟨gb248, 1, none⟩) (Kd.R_far (p := ⟨gb248, 0, none⟩) (Kd.R_types HO246.out BK248.out (by decide)) (fun _ hk => hk.2) (.slice Ao8 t241.length co8)) (fun _ hk => hk.2) (.slice Ao11 t244.length co11)) (fun _ hk => hk.1))⟩, ⟨by (with_reducible repeat (first | refine blk_drewN ?_ _ | refine blk_drew ?_ | refine blk_alloc ?_ _)); refine blk_far ?_ NB240_248.out _; (with_reducible repeat (first | refine blk_drewN ?_ _ | refine blk_drew ?_ | refine blk_alloc ?_ _)); refine blk_far ?_ NB240_248.out _; (with_reducible repeat (first | refine blk_drewN ?_ _ | refine blk_drew ?_ | refine blk_alloc ?_ _)); exact BK240.out⟩, ⟨by (with_reducible repeat (first | refine blk_drewN ?_ _ | refine blk_drew ?_ | refine blk_alloc ?_ _)); refine blk_put (cs := #[.slice Ao8 t241.length co8, .slice none 0 0]) ?_ 1 _ rfl; (with_reducible repeat (first | refine blk_drewN ?_ _ | refine blk_drew ?_ | refine blk_alloc ?_ _)); refine blk_put (cs := #[.slice none 0 0, .slice none 0 0]) ?_ 0 _ rfl; (with_reducible repeat (first | refine blk_drewN ?_ _ | refine blk_drew ?_ | refine blk_alloc ?_ _)); exact BK248.out⟩, ⟨zB2 HB.out GE240.out GE248.out⟩⟩
  case round =>
   clear H'
   try clear p2
   try clear c3
   try clear c4
   try clear c6
   try clear c9
   try clear hcz10_0
   try clear hcz10_1
   try clear hcz5_0
   try clear hcz5_1
   try clear hfz10_0
   try clear hfz10_1
   try clear hfz5_0
   try clear hfz5_1
   obtain ⟨x5_1, rfl, HA, HK1, HO_249000, HO_249001, BK240, BK248, HB⟩ := hrel
   cases gk with
   | zero => exact absurd HA.out (by simp [spec_IsTableau.l0])
   | succ k1 =>
    have H := HA.out
    clear HA
    simp only [spec_IsTableau.l0] at H
    by_cases c12 : x5_1 < (t241.length : Int)
    ·rw [if_pos c12] at H
     have c12b0 : decide (x5_1 < (t241.length : Int)) = true := decide_eq_true c12
     clear c12
     replace H := Option.bind_eq_some_iff.mp H
     obtain ⟨t249, A130, H⟩ := H
     replace H : (spec_IsTableau.l1 k1 x5_1 t249 l0_0 l0_1 t241 t244) = some r := H
     have A13 := Aside0.mk A130
     clear A130
     have H' := Aside0.mk H
     clear H
     have hnb14 := NB248_240.out
     have hnc14 := NB240_248.out
     have hcz15_0 : wr.cell? ⟨gb248, 0, none⟩ = some (.slice Ao8 t241.length co8) := (blk_cell BK248.out 0).trans rfl
     have hcz15_1 : wr.cell? ⟨gb248, 1, none⟩ = some (.slice Ao11 t244.length co11) := (blk_cell BK248.out 1).trans rfl
     have hfz15_0 := blk_frozen BK248.out 0
     have hfz15_1 := blk_frozen BK248.out 1
     go_wp2_with (first | ((with_reducible refine gate_callee (f := 65) rfl ?_); refine zG (some 26) Tryz.func65 #[.slice Ao11 t244.length co11, .int .i64 x5_1] ?_; (with_reducible refine (spec_l2At.calls _ _ t244 x5_1 t249 _ ?side1 ?side2 A13.out).mono ?_); (case side1 => exact zQ (Kd.R_reads' HO_249001.out).2.2); (case side2 => exact (Kd.R_reads' HO_249001.out).2.1); rintro e w' ⟨rfl, ⟨nd, rfl⟩⟩; refine ⟨_, rfl, ?_⟩))
     go_loopg [6] k1 (fun kq v6 w' => ∃ (x6_2 : Int), v6 = .int .i64 x6_2 ∧ Aside0 (spec_IsTableau.l1 kq x5_1 x6_2 l0_0 l0_1 t241 t244 = some r) ∧ Aside0 (kq ≤ k1) ∧ Aside0 (Kd.R (Kd.int .i64) 3 w' w.heap.size (fun k_ => some k_ ≠ ((.slice Ao11 t244.length co11) : Value).ownBlock) (.slice Ao8 t241.length co8) t241) ∧ Aside0 (Kd.R (Kd.int .i64) 3 w' w.heap.size (fun k_ => some k_ ≠ ((.slice Ao8 t241.length co8) : Value).ownBlock) (.slice Ao11 t244.length co11) t244) ∧ Aside0 (w'.heap[gb240]? = some (.cells #[(.slice A0_0 l0_0.length c0_0), (.slice A0_1 l0_1.length c0_1)] 29 (0, 0))) ∧ Aside0 (w'.heap[gb248]? = some (.cells #[(.slice Ao8 t241.length co8), (.slice Ao11 t244.length co11)] 74 (0, 0))) ∧ Aside0 (Below w.heap.size w w'))
     case atStart => exact ⟨(t249), zs, H', ⟨Nat.le_refl _⟩, ⟨zR HO_249000.out⟩, ⟨zR HO_249001.out⟩, ⟨zH BK240.out⟩, ⟨zH BK248.out⟩, ⟨zB2 HB.out GE240.out GE248.out⟩⟩
     case round =>
      clear H'
      try clear c1
      try clear p2
      try clear c3
      try clear c4
      try clear c6
      try clear c9
      try clear c12
      try clear c12b0
      try clear c14
      try clear hcz10_0
      try clear hcz10_1
      try clear hcz15_0
      try clear hcz15_1
      try clear hcz5_0
      try clear hcz5_1
      try clear hfz10_0
      try clear hfz10_1
      try clear hfz15_0
      try clear hfz15_1
      try clear hfz5_0
      try clear hfz5_1
      try clear p2
      obtain ⟨x6_2, rfl, HA, HK2, HO_249000, HO_249001, BK240, BK248, HB⟩ := hrel
      cases gk with
      | zero => exact absurd HA.out (by simp [spec_IsTableau.l1])
      | succ k2 =>
       have H := HA.out
       clear HA
       simp only [spec_IsTableau.l1] at H
       by_cases c16 : 0 ≤ x5_1
       ·rw [if_pos c16] at H
        have c16b0 : decide (0 ≤ x5_1) = true := decide_eq_true c16
        clear c16
        by_cases c17 : x5_1 < (t241.length : Int)
        ·rw [if_pos c17] at H
         have c17b0 : decide (x5_1 < (t241.length : Int)) = true := decide_eq_true c17
         clear c17
         by_cases c18 : x6_2 < (rd t241 x5_1)
         ·rw [if_pos c18] at H
          have c18b0 : decide (x6_2 < (rd t241 x5_1)) = true := decide_eq_true c18
          clear c18
          replace H := Option.bind_eq_some_iff.mp H
          obtain ⟨t251, A190, H⟩ := H
          replace H : (if x6_2 > 0 then ((spec_l5Entry.f k2 l0_0 l0_1 x5_1 (wrap64 (x6_2 - 1))).bind fun t252 => (spec_IsTableau.j2 k2 x5_1 x6_2 t251 t252 l0_0 l0_1 t241 t244)) else (spec_IsTableau.j2 k2 x5_1 x6_2 t251 0 l0_0 l0_1 t241 t244)) = some r := H
          have A19 := Aside0.mk A190
          clear A190
          have HC20 := Aside0.mk H
          clear H
          have hnb21 := NB248_240.out
          have hnc21 := NB240_248.out
          have hcz22_0 : wr.cell? ⟨gb248, 0, none⟩ = some (.slice Ao8 t241.length co8) := (blk_cell BK248.out 0).trans rfl
          have hcz22_1 : wr.cell? ⟨gb248, 1, none⟩ = some (.slice Ao11 t244.length co11) := (blk_cell BK248.out 1).trans rfl
          have hfz22_0 := blk_frozen BK248.out 0
          have hfz22_1 := blk_frozen BK248.out 1
          have p250 : 0 ≤ (x5_1 : Int) := zd
          have q250 : x5_1 < (t241.length : Int) := zd
          obtain ⟨ad250, e250, hx250_0⟩ := Kd.at_int (Kd.R_reads' HO_249000.out).2.2 x5_1 p250 q250
          cases e250
          replace p250 := eq_true p250
          replace q250 := eq_true q250
          have hcz23_0 : wr.cell? ⟨gb240, 0, none⟩ = some (.slice A0_0 l0_0.length c0_0) := (blk_cell BK240.out 0).trans rfl
          have hcz23_1 : wr.cell? ⟨gb240, 1, none⟩ = some (.slice A0_1 l0_1.length c0_1) := (blk_cell BK240.out 1).trans rfl
          have hfz23_0 := blk_frozen BK240.out 0
          have hfz23_1 := blk_frozen BK240.out 1
          go_upto_if 41 with (first | ((with_reducible refine gate_callee (f := 66) rfl ?_); refine zG (some 39) Tryz.func66 #[.agg #[.slice A0_0 l0_0.length c0_0, .slice A0_1 l0_1.length c0_1], .int .i64 x5_1, .int .i64 x6_2] ?_; (with_reducible refine (spec_l5Entry.calls k2 _ _ l0_0 _ _ l0_1 x5_1 x6_2 t251 _ ?side1 ?side2 ?side3 ?side4 A19.out).mono ?_); (case side1 => exact zQ (Kd.C_below HR0_0.out HB.out)); (case side2 => exact HC0_0.out); (case side3 => exact zQ (Kd.C_below HR0_1.out HB.out)); (case side4 => exact HC0_1.out); rintro e w24 ⟨rfl, hb⟩; refine ⟨_, rfl, ?_⟩; have n0_ := Aside0.mk (Kd.R_below (zR HO_249000.out) hb); have n1_ := Aside0.mk (Kd.R_below (zR HO_249001.out) hb); have n2_ := Aside0.mk (blk_below (g := gb240) (o := .cells #[.slice A0_0 l0_0.length c0_0, .slice A0_1 l0_1.length c0_1] 29 (0, 0)) (zH BK240.out) hb); have n3_ := Aside0.mk (blk_below (g := gb248) (o := .cells #[.slice (some ad250) t241.length co8, .slice Ao11 t244.length co11] 74 (0, 0)) (zH BK248.out) hb); have n4_ := Aside0.mk (below_step (zB2 HB.out GE240.out GE248.out) hb); clear HO_249000; clear HO_249001; clear BK240; clear BK248; clear HB; have HO_249000 := n0_; have HO_249001 := n1_; have BK240 := n2_; have BK248 := n3_; have HB := n4_; clear n0_ n1_ n2_ n3_ n4_; (try clear hb); (try clear hb2); (try clear hk); (try clear hi)))
          (try simp only [Act.put, List.setIfInBounds_toArray, List.set_cons_zero, List.set_cons_succ])
          go_cut [8] (fun v8 wc => ∃ (kq : Nat) (x8_19 : Int), v8 = .int .i64 x8_19 ∧ Aside0 (spec_IsTableau.j2 kq x5_1 x6_2 t251 x8_19 l0_0 l0_1 t241 t244 = some r) ∧ Aside0 (kq ≤ k2) ∧ Aside0 (Kd.R (Kd.int .i64) 3 wc w.heap.size (fun k_ => some k_ ≠ ((.slice Ao11 t244.length co11) : Value).ownBlock) (.slice (some ad250) t241.length co8) t241) ∧ Aside0 (Kd.R (Kd.int .i64) 3 wc w.heap.size (fun k_ => some k_ ≠ ((.slice (some ad250) t241.length co8) : Value).ownBlock) (.slice Ao11 t244.length co11) t244) ∧ Aside0 (wc.heap[gb240]? = some (.cells #[(.slice A0_0 l0_0.length c0_0), (.slice A0_1 l0_1.length c0_1)] 29 (0, 0))) ∧ Aside0 (wc.heap[gb248]? = some (.cells #[(.slice (some ad250) t241.length co8), (.slice Ao11 t244.length co11)] 74 (0, 0))) ∧ Aside0 (Below w.heap.size w wc))
          case first =>
           have H := HC20.out
           clear HC20
           by_cases c25 : x6_2 > 0
           ·rw [if_pos c25] at H
            have c25b0 : decide (0 < x6_2) = true := decide_eq_true c25
            clear c25
            (first | rw [c25b0] | (simp only [i64_w, i32_w]; rw [c25b0]) | skip)
            replace H := Option.bind_eq_some_iff.mp H
            obtain ⟨t252, A260, H⟩ := H
            replace H : (spec_IsTableau.j2 k2 x5_1 x6_2 t251 t252 l0_0 l0_1 t241 t244) = some r := H
            have A26 := Aside0.mk A260
            clear A260
            have H' := Aside0.mk H
            clear H
            have hnb27 := NB240_248.out
            have hnc27 := NB248_240.out
            have hcz28_0 : w24.cell? ⟨gb240, 0, none⟩ = some (.slice A0_0 l0_0.length c0_0) := (blk_cell BK240.out 0).trans rfl
            have hcz28_1 : w24.cell? ⟨gb240, 1, none⟩ = some (.slice A0_1 l0_1.length c0_1) := (blk_cell BK240.out 1).trans rfl
            have hfz28_0 := blk_frozen BK240.out 0
            have hfz28_1 := blk_frozen BK240.out 1
            go_wp2_with (first | ((with_reducible refine gate_callee (f := 66) rfl ?_); refine zG (some 46) Tryz.func66 #[.agg #[.slice A0_0 l0_0.length c0_0, .slice A0_1 l0_1.length c0_1], .int .i64 x5_1, .int .i64 (wrap64 (x6_2 - 1))] ?_; (with_reducible refine (spec_l5Entry.calls k2 _ _ l0_0 _ _ l0_1 x5_1 (wrap64 (x6_2 - 1)) t252 _ ?side1 ?side2 ?side3 ?side4 A26.out).mono ?_); (case side1 => exact zQ (Kd.C_below HR0_0.out HB.out)); (case side2 => exact HC0_0.out); (case side3 => exact zQ (Kd.C_below HR0_1.out HB.out)); (case side4 => exact HC0_1.out); rintro e w29 ⟨rfl, hb⟩; refine ⟨_, rfl, ?_⟩; have n0_ := Aside0.mk (Kd.R_below (zR HO_249000.out) hb); have n1_ := Aside0.mk (Kd.R_below (zR HO_249001.out) hb); have n2_ := Aside0.mk (blk_below (g := gb240) (o := .cells #[.slice A0_0 l0_0.length c0_0, .slice A0_1 l0_1.length c0_1] 29 (0, 0)) (zH BK240.out) hb); have n3_ := Aside0.mk (blk_below (g := gb248) (o := .cells #[.slice (some ad250) t241.length co8, .slice Ao11 t244.length co11] 74 (0, 0)) (zH BK248.out) hb); have n4_ := Aside0.mk (below_step (zB2 HB.out GE240.out GE248.out) hb); clear HO_249000; clear HO_249001; clear BK240; clear BK248; clear HB; have HO_249000 := n0_; have HO_249001 := n1_; have BK240 := n2_; have BK248 := n3_; have HB := n4_; clear n0_ n1_ n2_ n3_ n4_; (try clear hb); (try clear hb2); (try clear hk); (try clear hi)))
            go_meet
            case rel => exact ⟨_, (t252), zs, H', ⟨by have := HK1.out; have := HK2.out; first | omega | exact Nat.le_refl _⟩, ⟨zR HO_249000.out⟩, ⟨zR HO_249001.out⟩, ⟨zH BK240.out⟩, ⟨zH BK248.out⟩, ⟨zB2 HB.out GE240.out GE248.out⟩⟩
           ·rw [if_neg c25] at H
            have c25b0 : decide (0 < x6_2) = false := decide_eq_false c25
            clear c25
            (first | rw [c25b0] | (simp only [i64_w, i32_w]; rw [c25b0]) | skip)
            have H' := Aside0.mk H
            clear H
            go_wp2
            go_meet
            case rel => exact ⟨_, (0), zs, H', ⟨by have := HK1.out; have := HK2.out; first | omega | exact Nat.le_refl _⟩, ⟨zR HO_249000.out⟩, ⟨zR HO_249001.out⟩, ⟨zH BK240.out⟩, ⟨zH BK248.out⟩, ⟨zB2 HB.out GE240.out GE248.out⟩⟩
          case rest =>
           clear HC20
           try clear c1
           try clear c2
           try clear p2
           try clear q2
           try clear hx2
           try clear c3
           try clear c4
           try clear c6
           try clear p6
           try clear c9
           try clear c12
           try clear c12b0
           try clear c14
           try clear c16
           try clear c16b0
           try clear c17
           try clear c17b0
           try clear c18
           try clear c18b0
           try clear c21
           try clear c25
           try clear c25b0
           try clear p25
           try clear q25
           try clear hx25
           try clear c27
           try clear hcz10_0
           try clear hcz10_1
           try clear hcz15_0
           try clear hcz15_1
           try clear hcz22_0
           try clear hcz22_1
           try clear hcz23_0
           try clear hcz23_1
           try clear hcz28_0
           try clear hcz28_1
           try clear hcz5_0
           try clear hcz5_1
           try clear hfz10_0
           try clear hfz10_1
           try clear hfz15_0
           try clear hfz15_1
           try clear hfz22_0
           try clear hfz22_1
           try clear hfz23_0
           try clear hfz23_1
           try clear hfz28_0
           try clear hfz28_1
           try clear hfz5_0
           try clear hfz5_1
           try clear hx250_0
           try clear p2
           try clear p250
           try clear q250
           obtain ⟨kq, x8_19, rfl, HA, HJ19, HO_249000, HO_249001, BK240, BK248, HB⟩ := hcut
           cases kq with
           | zero => exact absurd HA.out (by simp [spec_IsTableau.j2])
           | succ kj19 =>
            have H := HA.out
            clear HA
            simp only [spec_IsTableau.j2] at H
            replace H := Option.bind_eq_some_iff.mp H
            obtain ⟨t253, A300, H⟩ := H
            replace H : (if t253 = true then (if x8_19 > t251 then (some false) else ((spec_l5Entry.f kj19 l0_0 l0_1 (wrap64 (x5_1 - 1)) x6_2).bind fun t254 => (if t254 ≥ t251 then (some false) else (spec_IsTableau.l1 kj19 x5_1 (wrap64 (x6_2 + 1)) l0_0 l0_1 t241 t244)))) else (some false)) = some r := H
            have A30 := Aside0.mk A300
            clear A300
            by_cases c31 : t253 = true
            ·subst c31
             have H1 : (if x8_19 > t251 then (some false) else ((spec_l5Entry.f kj19 l0_0 l0_1 (wrap64 (x5_1 - 1)) x6_2).bind fun t254 => (if t254 ≥ t251 then (some false) else (spec_IsTableau.l1 kj19 x5_1 (wrap64 (x6_2 + 1)) l0_0 l0_1 t241 t244)))) = some r := by rw [if_pos rfl] at H; exact H
             clear H
             have H := H1
             clear H1
             by_cases c32 : x8_19 > t251
             ·rw [if_pos c32] at H
              have c32b0 : decide (t251 < x8_19) = true := decide_eq_true c32
              clear c32
              obtain rfl := Option.some.inj H
              go_wp2_with (first | ((with_reducible refine gate_callee (f := 40) rfl ?_); refine zG (some 48) Tryz.func40 #[.int .i64 t251, .int .i64 1, .int .i64 9] ?_; (with_reducible refine (spec_l1In.calls t251 1 9 true _ A30.out).mono ?_); rintro e w' ⟨rfl, ⟨nd, rfl⟩⟩; refine ⟨_, rfl, ?_⟩))
              go_ret
              exact ⟨zr, zB2 HB.out GE240.out GE248.out⟩
             ·rw [if_neg c32] at H
              have c32b0 : decide (t251 < x8_19) = false := decide_eq_false c32
              clear c32
              replace H := Option.bind_eq_some_iff.mp H
              obtain ⟨t254, A330, H⟩ := H
              replace H : (if t254 ≥ t251 then (some false) else (spec_IsTableau.l1 kj19 x5_1 (wrap64 (x6_2 + 1)) l0_0 l0_1 t241 t244)) = some r := H
              have A33 := Aside0.mk A330
              clear A330
              by_cases c34 : t254 ≥ t251
              ·rw [if_pos c34] at H
               have c34b0 : decide (t251 ≤ t254) = true := decide_eq_true c34
               clear c34
               obtain rfl := Option.some.inj H
               go_wp2_with (first | ((with_reducible refine gate_callee (f := 40) rfl ?_); refine zG (some 48) Tryz.func40 #[.int .i64 t251, .int .i64 1, .int .i64 9] ?_; (with_reducible refine (spec_l1In.calls t251 1 9 true _ A30.out).mono ?_); rintro e w' ⟨rfl, ⟨nd, rfl⟩⟩; refine ⟨_, rfl, ?_⟩; have hnb35 := NB240_248.out; have hnc35 := NB248_240.out; have hcz36_0 : wc.cell? ⟨gb240, 0, none⟩ = some (.slice A0_0 l0_0.length c0_0) := (blk_cell BK240.out 0).trans rfl; have hcz36_1 : wc.cell? ⟨gb240, 1, none⟩ = some (.slice A0_1 l0_1.length c0_1) := (blk_cell BK240.out 1).trans rfl; have hfz36_0 := blk_frozen BK240.out 0; have hfz36_1 := blk_frozen BK240.out 1) | (go_at_call 66; (with_reducible refine (spec_l5Entry.calls kj19 _ _ l0_0 _ _ l0_1 (wrap64 (x5_1 - 1)) x6_2 t254 _ ?side1 ?side2 ?side3 ?side4 A33.out).mono ?_); (case side1 => exact zQ (Kd.C_below HR0_0.out (zB2 HB.out GE240.out GE248.out))); (case side2 => exact HC0_0.out); (case side3 => exact zQ (Kd.C_below HR0_1.out (zB2 HB.out GE240.out GE248.out))); (case side4 => exact HC0_1.out); rintro e w37 ⟨rfl, hb⟩; have n0_ := Aside0.mk (Kd.R_below (zR HO_249000.out) hb); have n1_ := Aside0.mk (Kd.R_below (zR HO_249001.out) hb); have n2_ := Aside0.mk (blk_below (g := gb240) (o := .cells #[.slice A0_0 l0_0.length c0_0, .slice A0_1 l0_1.length c0_1] 29 (0, 0)) (zH BK240.out) hb); have n3_ := Aside0.mk (blk_below (g := gb248) (o := .cells #[.slice (some ad250) t241.length co8, .slice Ao11 t244.length co11] 74 (0, 0)) (zH BK248.out) hb); have n4_ := Aside0.mk (below_step (zB2 HB.out GE240.out GE248.out) hb); clear HO_249000; clear HO_249001; clear BK240; clear BK248; clear HB; have HO_249000 := n0_; have HO_249001 := n1_; have BK240 := n2_; have BK248 := n3_; have HB := n4_; clear n0_ n1_ n2_ n3_ n4_; (try clear hb); (try clear hb2); (try clear hk); (try clear hi)))
               go_ret
               exact ⟨zr, zB2 HB.out GE240.out GE248.out⟩
              ·rw [if_neg c34] at H
               have c34b0 : decide (t251 ≤ t254) = false := decide_eq_false c34
               clear c34
               have H' := Aside0.mk H
               clear H
               go_wp2_with (first | ((with_reducible refine gate_callee (f := 40) rfl ?_); refine zG (some 48) Tryz.func40 #[.int .i64 t251, .int .i64 1, .int .i64 9] ?_; (with_reducible refine (spec_l1In.calls t251 1 9 true _ A30.out).mono ?_); rintro e w' ⟨rfl, ⟨nd, rfl⟩⟩; refine ⟨_, rfl, ?_⟩; have hnb38 := NB240_248.out; have hnc38 := NB248_240.out; have hcz39_0 : wc.cell? ⟨gb240, 0, none⟩ = some (.slice A0_0 l0_0.length c0_0) := (blk_cell BK240.out 0).trans rfl; have hcz39_1 : wc.cell? ⟨gb240, 1, none⟩ = some (.slice A0_1 l0_1.length c0_1) := (blk_cell BK240.out 1).trans rfl; have hfz39_0 := blk_frozen BK240.out 0; have hfz39_1 := blk_frozen BK240.out 1) | (go_at_call 66; (with_reducible refine (spec_l5Entry.calls kj19 _ _ l0_0 _ _ l0_1 (wrap64 (x5_1 - 1)) x6_2 t254 _ ?side1 ?side2 ?side3 ?side4 A33.out).mono ?_); (case side1 => exact zQ (Kd.C_below HR0_0.out (zB2 HB.out GE240.out GE248.out))); (case side2 => exact HC0_0.out); (case side3 => exact zQ (Kd.C_below HR0_1.out (zB2 HB.out GE240.out GE248.out))); (case side4 => exact HC0_1.out); rintro e w40 ⟨rfl, hb⟩; have n0_ := Aside0.mk (Kd.R_below (zR HO_249000.out) hb); have n1_ := Aside0.mk (Kd.R_below (zR HO_249001.out) hb); have n2_ := Aside0.mk (blk_below (g := gb240) (o := .cells #[.slice A0_0 l0_0.length c0_0, .slice A0_1 l0_1.length c0_1] 29 (0, 0)) (zH BK240.out) hb); have n3_ := Aside0.mk (blk_below (g := gb248) (o := .cells #[.slice (some ad250) t241.length co8, .slice Ao11 t244.length co11] 74 (0, 0)) (zH BK248.out) hb); have n4_ := Aside0.mk (below_step (zB2 HB.out GE240.out GE248.out) hb); clear HO_249000; clear HO_249001; clear BK240; clear BK248; clear HB; have HO_249000 := n0_; have HO_249001 := n1_; have BK240 := n2_; have BK248 := n3_; have HB := n4_; clear n0_ n1_ n2_ n3_ n4_; (try clear hb); (try clear hb2); (try clear hk); (try clear hi)))
               go_roundg kj19
               case measure => have := HK1.out; have := HK2.out; have := HJ19.out; omega
               case rel => exact ⟨(wrap64 (x6_2 + 1)), zs, H', ⟨by have := HK1.out; have := HK2.out; have := HJ19.out; omega⟩, ⟨zR HO_249000.out⟩, ⟨zR HO_249001.out⟩, ⟨zH BK240.out⟩, ⟨zH BK248.out⟩, ⟨zB2 HB.out GE240.out GE248.out⟩⟩
            ·replace c31 := Bool.eq_false_iff.mpr c31
             subst c31
             have H1 : (some false) = some r := by rw [if_neg (show ¬ (false = true) by decide)] at H; exact H
             clear H
             have H := H1
             clear H1
             obtain rfl := Option.some.inj H
             go_wp2_with (first | ((with_reducible refine gate_callee (f := 40) rfl ?_); refine zG (some 48) Tryz.func40 #[.int .i64 t251, .int .i64 1, .int .i64 9] ?_; (with_reducible refine (spec_l1In.calls t251 1 9 false _ A30.out).mono ?_); rintro e w' ⟨rfl, ⟨nd, rfl⟩⟩; refine ⟨_, rfl, ?_⟩))
             go_ret
             exact ⟨zr, zB2 HB.out GE240.out GE248.out⟩
         ·rw [if_neg c18] at H
          have c18b0 : decide (x6_2 < (rd t241 x5_1)) = false := decide_eq_false c18
          clear c18
          have H' := Aside0.mk H
          clear H
          have hnb41 := NB248_240.out
          have hnc41 := NB240_248.out
          have hcz42_0 : wr.cell? ⟨gb248, 0, none⟩ = some (.slice Ao8 t241.length co8) := (blk_cell BK248.out 0).trans rfl
          have hcz42_1 : wr.cell? ⟨gb248, 1, none⟩ = some (.slice Ao11 t244.length co11) := (blk_cell BK248.out 1).trans rfl
          have hfz42_0 := blk_frozen BK248.out 0
          have hfz42_1 := blk_frozen BK248.out 1
          have p250 : 0 ≤ (x5_1 : Int) := zd
          have q250 : x5_1 < (t241.length : Int) := zd
          obtain ⟨ad250, e250, hx250_0⟩ := Kd.at_int (Kd.R_reads' HO_249000.out).2.2 x5_1 p250 q250
          cases e250
          replace p250 := eq_true p250
          replace q250 := eq_true q250
          go_wp2
          go_roundg k2
          case measure => have := HK1.out; have := HK2.out; omega
          case rel => exact ⟨(wrap64 (x5_1 + 1)), zs, H', ⟨by have := HK1.out; have := HK2.out; omega⟩, ⟨zR HO_249000.out⟩, ⟨zR HO_249001.out⟩, ⟨zH BK240.out⟩, ⟨zH BK248.out⟩, ⟨zB2 HB.out GE240.out GE248.out⟩⟩
        ·rw [if_neg c17] at H
         exact absurd H (by simp)
       ·rw [if_neg c16] at H
        exact absurd H (by simp)
    ·rw [if_neg c12] at H
     have c12b0 : decide (x5_1 < (t241.length : Int)) = false := decide_eq_false c12
     clear c12
     obtain rfl := Option.some.inj H
     have hnb43 := NB248_240.out
     have hnc43 := NB240_248.out
     have hcz44_0 : wr.cell? ⟨gb248, 0, none⟩ = some (.slice Ao8 t241.length co8) := (blk_cell BK248.out 0).trans rfl
     have hcz44_1 : wr.cell? ⟨gb248, 1, none⟩ = some (.slice Ao11 t244.length co11) := (blk_cell BK248.out 1).trans rfl
     have hfz44_0 := blk_frozen BK248.out 0
     have hfz44_1 := blk_frozen BK248.out 1
     go_wp2
     go_ret
     exact ⟨zr, zB2 HB.out GE240.out GE248.out⟩
 ·replace c3 := Bool.eq_false_iff.mpr c3
  subst c3
  have H1 : (some false) = some r := by rw [if_neg (show ¬ (false = true) by decide)] at H; exact H
  clear H
  have H := H1
  clear H1
  obtain rfl := Option.some.inj H
  go_enter Tryz.func46, Tryz.ntmps46
  go_wp2_with (first | ((with_reducible refine gate_dst (N := 1) rfl ?_); refine zX (N := 1) (cs := #[.slice A0_0 l0_0.length c0_0, .slice A0_1 l0_1.length c0_1]) (t := 29) ?_; intro gb240 hg w45 hbox hb; have n0_ := Aside0.mk (below_step (zB HB.out) hb); have n1_ := Aside0.mk (hbox); have n2_ := Aside0.mk ((by rw [hg]; exact (below_size (zB HB.out)) : w.heap.size ≤ gb240)); have n3_ := Aside0.mk ((by rw [hg]; exact (below_size (zB HB.out)) : w.heap.size ≤ gb240)); clear HB; have HB := n0_; have BK240 := n1_; have GW240 := n2_; have GE240 := n3_; clear n0_ n1_ n2_ n3_; clear hb hbox hg; have hcz46_0 : w45.cell? ⟨gb240, 0, none⟩ = some (.slice A0_0 l0_0.length c0_0) := (blk_cell BK240.out 0).trans rfl; have hcz46_1 : w45.cell? ⟨gb240, 1, none⟩ = some (.slice A0_1 l0_1.length c0_1) := (blk_cell BK240.out 1).trans rfl; have hfz46_0 := blk_frozen BK240.out 0; have hfz46_1 := blk_frozen BK240.out 1) | ((with_reducible refine gate_callee (f := 64) rfl ?_); refine zG (some 11) Tryz.func64 #[.agg #[.slice A0_0 l0_0.length c0_0, .slice A0_1 l0_1.length c0_1]] ?_; (with_reducible refine (spec_ShapeOf.calls k _ _ l0_0 _ _ l0_1 t241 t244 false _ ?side1 ?side2 ?side3 ?side4 A2.out).mono ?_); (case side1 => exact zQ (Kd.C_below HR0_0.out HB.out)); (case side2 => exact HC0_0.out); (case side3 => exact zQ (Kd.C_below HR0_1.out HB.out)); (case side4 => exact HC0_1.out); rintro e w47 ⟨v242, v245, rfl, ho0, ho1, hb⟩; refine ⟨_, rfl, ?_⟩; have n0_ := Aside0.mk (Kd.R_lower ho0 (below_size (zB1 HB.out GE240.out))); have n1_ := Aside0.mk (Kd.R_lower ho1 (below_size (zB1 HB.out GE240.out))); have n2_ := Aside0.mk (blk_below (g := gb240) (o := .cells #[.slice A0_0 l0_0.length c0_0, .slice A0_1 l0_1.length c0_1] 29 (0, 0)) (zH BK240.out) hb); have n3_ := Aside0.mk (below_step (zB1 HB.out GE240.out) hb); clear BK240; clear HB; have HO243 := n0_; have HO246 := n1_; have BK240 := n2_; have HB := n3_; clear n0_ n1_ n2_ n3_; (try clear hb); (try clear hb2); (try clear hk); (try clear hi); (try clear ho0); (try clear ho1)) | ((with_reducible refine gate_dst (N := 3) rfl ?_); refine zX (N := 3) (cs := #[.slice none 0 0, .slice none 0 0]) (t := 74) ?_; intro gb248 hg w48 hbox hb; have n0_ := Aside0.mk (Kd.R_below (zR HO243.out) hb); have n1_ := Aside0.mk (Kd.R_below (zR HO246.out) hb); have n2_ := Aside0.mk (blk_below (g := gb240) (o := .cells #[.slice A0_0 l0_0.length c0_0, .slice A0_1 l0_1.length c0_1] 29 (0, 0)) (zH BK240.out) hb); have n3_ := Aside0.mk (below_step (zB1 HB.out GE240.out) hb); have n4_ := Aside0.mk (hbox); have n5_ := Aside0.mk ((by rw [hg]; exact (below_size (zB1 HB.out GE240.out)) : w.heap.size ≤ gb248)); have n6_ := Aside0.mk ((by rw [hg]; exact (below_size (zB1 HB.out GE240.out)) : w.heap.size ≤ gb248)); have n7_ := Aside0.mk ((by rw [hg]; exact Nat.ne_of_lt (blk_lt (g := gb240) (o := .cells #[.slice A0_0 l0_0.length c0_0, .slice A0_1 l0_1.length c0_1] 29 (0, 0)) (zH BK240.out)) : gb240 ≠ gb248)); have n8_ := Aside0.mk ((by rw [hg]; exact Nat.ne_of_gt (blk_lt (g := gb240) (o := .cells #[.slice A0_0 l0_0.length c0_0, .slice A0_1 l0_1.length c0_1] 29 (0, 0)) (zH BK240.out)) : gb248 ≠ gb240)); clear HO243; clear HO246; clear BK240; clear HB; have HO243 := n0_; have HO246 := n1_; have BK240 := n2_; have HB := n3_; have BK248 := n4_; have GW248 := n5_; have GE248 := n6_; have NB240_248 := n7_; have NB248_240 := n8_; clear n0_ n1_ n2_ n3_ n4_ n5_ n6_ n7_ n8_; clear hb hbox hg; obtain ⟨Ao49, co49, eo49⟩ := Kd.R_slice HO243.out; subst eo49; have hnb50 := NB248_240.out; have hnc50 := NB240_248.out; have hcz51_0 : w48.cell? ⟨gb248, 0, none⟩ = some (.slice none 0 0) := (blk_cell BK248.out 0).trans rfl; have hcz51_1 : w48.cell? ⟨gb248, 1, none⟩ = some (.slice none 0 0) := (blk_cell BK248.out 1).trans rfl; have hfz51_0 := blk_frozen BK248.out 0; have hfz51_1 := blk_frozen BK248.out 1; obtain ⟨Ao52, co52, eo52⟩ := Kd.R_slice HO246.out; subst eo52))
  go_ret
  exact ⟨zr, zB2 HB.out GE240.out GE248.out⟩

def spec_l1Max.f (a0 : Int) (a1 : Int) : Option (Int) := if a0 > a1 then (some a0) else (some a1)
set_option maxHeartbeats 8000000 in
set_option maxRecDepth 100000 in
theorem spec_l1Max.calls (a0 : Int) (a1 : Int) (r : Int) (w : World) (h : spec_l1Max.f a0 a1 = some r) :
  Calls Tryz.prog 79 #[.int .i64 a0, .int .i64 a1] w fun e w' => e = .returned (.int .i64 r) ∧ Drawn0 w w' := by
 have H : (if a0 > a1 then (some a0) else (some a1)) = some r := h
 clear h
 by_cases c3 : a0 > a1
 ·rw [if_pos c3] at H
  have c3b0 : decide (a1 < a0) = true := decide_eq_true c3
  clear c3
  obtain rfl := Option.some.inj H
  go_enter Tryz.func79, Tryz.ntmps79
  go_wp2
  go_ret
  exact ⟨zs, zE⟩
 ·rw [if_neg c3] at H
  have c3b0 : decide (a1 < a0) = false := decide_eq_false c3
  clear c3
  obtain rfl := Option.some.inj H
  go_enter Tryz.func79, Tryz.ntmps79
  go_wp2
  go_ret
  exact ⟨zs, zE⟩

def spec_l1Min.f (a0 : Int) (a1 : Int) : Option (Int) := if a0 < a1 then (some a0) else (some a1)
set_option maxHeartbeats 8000000 in
set_option maxRecDepth 100000 in
theorem spec_l1Min.calls (a0 : Int) (a1 : Int) (r : Int) (w : World) (h : spec_l1Min.f a0 a1 = some r) :
  Calls Tryz.prog 80 #[.int .i64 a0, .int .i64 a1] w fun e w' => e = .returned (.int .i64 r) ∧ Drawn0 w w' := by
 have H : (if a0 < a1 then (some a0) else (some a1)) = some r := h
 clear h
 by_cases c3 : a0 < a1
 ·rw [if_pos c3] at H
  have c3b0 : decide (a0 < a1) = true := decide_eq_true c3
  clear c3
  obtain rfl := Option.some.inj H
  go_enter Tryz.func80, Tryz.ntmps80
  go_wp2
  go_ret
  exact ⟨zs, zE⟩
 ·rw [if_neg c3] at H
  have c3b0 : decide (a0 < a1) = false := decide_eq_false c3
  clear c3
  obtain rfl := Option.some.inj H
  go_enter Tryz.func80, Tryz.ntmps80
  go_wp2
  go_ret
  exact ⟨zs, zE⟩

mutual
def spec_l5Fill.l0 : Nat → Int → List Int → Int → Int → List Int → List Int → List Int → List (List Int) → Option (List Int × (List (List Int)) × Int × Int)
 | 0, _, _, _, _, _, _, _, _ => none
 | k + 1, x6, x1000, x1001, x1002, x256000, x256001, x264000, x264001 => if x6 < (x256000.length : Int) then ((spec_l2At.f x256001 x6).bind fun t267 => (spec_l5Fill.l1 k x6 (([] : List Int)) 1 t267 x1000 x1001 x1002 x256000 x256001 x264000 x264001)) else (some (x264000, x264001, x1001, x1002))
def spec_l5Fill.l1 : Nat → Int → List Int → Int → Int → List Int → Int → Int → List Int → List Int → List Int → List (List Int) → Option (List Int × (List (List Int)) × Int × Int)
 | 0, _, _, _, _, _, _, _, _, _, _, _ => none
 | k + 1, x6, x7, x8, x9, x1000, x1001, x1002, x256000, x256001, x264000, x264001 => if 0 ≤ x6 then (if x6 < (x256000.length : Int) then (if x9 < (rd x256000 x6) then ((spec_l5Entry.f k x264000 x264001 (wrap64 (x6 - 1)) x9).bind fun t272 => ((spec_l1Max.f x8 (wrap64 (t272 + 1))).bind fun t273 => ((spec_l1Once.f x1000 x1001 x1002 3).bind fun bt274 => ((spec_l1Bit.f bt274.1).bind fun t277 => ((spec_l1Below.f x1000 bt274.2.1 bt274.2.2 2).bind fun bt278 => ((spec_l1Min.f (wrap64 (t273 + (wrap64 (t277 * bt278.1)))) 9).bind fun t281 => (if x7.length < 17592186044416 then (spec_l5Fill.l1 k x6 (x7 ++ [t281]) t281 (wrap64 (x9 + 1)) x1000 bt278.2.1 bt278.2.2 x256000 x256001 x264000 x264001) else (none)))))))) else (if x264001.length < 5864062014805 then (spec_l5Fill.l0 k (wrap64 (x6 + 1)) x1000 x1001 x1002 x256000 x256001 x264000 (x264001 ++ [x7])) else (none))) else (none)) else (none)
end
def spec_l5Fill.f (k : Nat) (s0_0 : List Int) (s0_1 : Int) (s0_2 : Int) (l1_0 : List Int) (l1_1 : List Int) : Option (List Int × (List (List Int)) × Int × Int) := (some (([] : List Int) : List Int)).bind fun y257 => (if y257.length + l1_1.length < 17592186044416 then (spec_l5Fill.l0 k 0 s0_0 s0_1 s0_2 l1_0 l1_1 (y257 ++ l1_1) ([] : List (List Int))) else (none))
set_option maxHeartbeats 8000000 in
set_option maxRecDepth 100000 in
theorem spec_l5Fill.calls (k : Nat) (g : Nat) (s0_0 : List Int) (s0_1 : Int) (s0_2 : Int) (A1_0 : Option Addr) (c1_0 : Nat) (l1_0 : List Int) (A1_1 : Option Addr) (c1_1 : Nat) (l1_1 : List Int) (r1 : List Int) (r2 : List (List Int)) (r3 : Int) (r4 : Int) (w0 w : World) (hI : IsS67 w0 w g s0_0 s0_1 s0_2) (hB : Below w0.heap.size w0 w) (hr1_0 : Kd.C (Kd.int .i64) w A1_0 l1_0.length l1_0) (hc1_0 : l1_0.length ≤ c1_0) (hf1_0 : ∀ ad, A1_0 = some ad → 0 < l1_0.length → ad.block ≠ g) (hr1_1 : Kd.C (Kd.int .i64) w A1_1 l1_1.length l1_1) (hc1_1 : l1_1.length ≤ c1_1) (hf1_1 : ∀ ad, A1_1 = some ad → 0 < l1_1.length → ad.block ≠ g) (h : spec_l5Fill.f k s0_0 s0_1 s0_2 l1_0 l1_1 = some (r1, r2, r3, r4)) :
  Calls Tryz.prog 70 #[.pointer (some ⟨g, 0, none⟩), .agg #[.slice A1_0 l1_0.length c1_0, .slice A1_1 l1_1.length c1_1]] w fun e w' => ∃ v0_ v1_ : Value, e = .returned (.agg #[v0_, v1_]) ∧ Kd.R (Kd.int .i64) 3 w' w.heap.size (fun _ => True) v0_ r1 ∧ Kd.S (Kd.slice 3 (Kd.int .i64)) 24 w' w.heap.size (fun k_ => some k_ ≠ (v0_ : Value).ownBlock) v1_ r2 ∧ IsS67 w0 w' g s0_0 r3 r4 ∧ Below w0.heap.size w0 w' ∧ KeepBut w w' g none := by
 have hu74 := Tryz.underlying74
 have hu29 := Tryz.underlying29
 have HR1_0 := Aside0.mk hr1_0
 have HC1_0 := Aside0.mk hc1_0
 clear hr1_0 hc1_0
 have HR1_1 := Aside0.mk hr1_1
 have HC1_1 := Aside0.mk hc1_1
 clear hr1_1 hc1_1
 have HI0 := Aside0.mk hI
 have HK := Aside0.mk (KeepBut.refl w g none)
 have HL := Aside0.mk hB.size
 clear hI
 have HW0 := Aside0.mk hB.size
 have HB := Aside0.mk hB
 clear hB
 have H : ((some (([] : List Int) : List Int)).bind fun y257 => (if y257.length + l1_1.length < 17592186044416 then (spec_l5Fill.l0 k 0 s0_0 s0_1 s0_2 l1_0 l1_1 (y257 ++ l1_1) ([] : List (List Int))) else (none))) = some (r1, r2, r3, r4) := h
 clear h
 obtain ⟨y257, hy257⟩ : ∃ y_ : List Int, y_ = (([] : List Int)) := ⟨_, rfl⟩
 replace H : (if y257.length + l1_1.length < 17592186044416 then (spec_l5Fill.l0 k 0 s0_0 s0_1 s0_2 l1_0 l1_1 (y257 ++ l1_1) ([] : List (List Int))) else (none)) = some (r1, r2, r3, r4) := zY hy257 H
 have Ny257 := Aside0.mk hy257
 clear hy257
 by_cases c3 : y257.length + l1_1.length < 17592186044416
 ·rw [if_pos c3] at H
  have LMc3 := Aside0.mk c3
  clear c3
  obtain ⟨y260, hy260⟩ : ∃ y_ : List Int, y_ = (y257 ++ l1_1) := ⟨_, rfl⟩
  replace H : (spec_l5Fill.l0 k 0 s0_0 s0_1 s0_2 l1_0 l1_1 y260 ([] : List (List Int))) = some (r1, r2, r3, r4) := zY hy260 H
  have Ny260 := Aside0.mk hy260
  clear hy260
  have H' := Aside0.mk H
  clear H
  go_enter Tryz.func70, Tryz.ntmps70
  go_wp2_with (first | ((with_reducible refine gate_dst (N := 3) rfl ?_); refine zX (N := 3) (cs := #[.slice A1_0 l1_0.length c1_0, .slice A1_1 l1_1.length c1_1]) (t := 74) ?_; intro gb255 hg w4 hbox hb; have n0_ := Aside0.mk (IsS67.below (zI67 HI0.out) hb); have n1_ := Aside0.mk (KeepBut.trans (zK HK.out) (KeepBut.of_below hb g none) (.inl rfl)); have n2_ := Aside0.mk (below_step (zB1 HB.out (IsS67.ge HI0.out)) hb); have n3_ := Aside0.mk (hbox); have n4_ := Aside0.mk ((by rw [hg]; exact (keep_size (w := w) (g := g) (row := none) (zK HK.out)) : w.heap.size ≤ gb255)); have n5_ := Aside0.mk ((Nat.le_trans HW0.out (by rw [hg]; exact (keep_size (w := w) (g := g) (row := none) (zK HK.out)) : w.heap.size ≤ gb255) : w0.heap.size ≤ gb255)); have n6_ := Aside0.mk ((by rw [hg]; exact Nat.ne_of_lt (IsS67.lt (show IsS67 w0 _ g s0_0 s0_1 s0_2 from zI67 HI0.out)) : g ≠ gb255)); have n7_ := Aside0.mk ((by rw [hg]; exact Nat.ne_of_gt (IsS67.lt (show IsS67 w0 _ g s0_0 s0_1 s0_2 from zI67 HI0.out)) : gb255 ≠ g)); clear HI0; clear HK; clear HB; have HI0 := n0_; have HK := n1_; have HB := n2_; have BK255 := n3_; have GW255 := n4_; have GE255 := n5_; have NB0_255 := n6_; have NB255_0 := n7_; clear n0_ n1_ n2_ n3_ n4_ n5_ n6_ n7_; clear hb hbox hg) | ((with_reducible refine gate_dst (N := 4) rfl ?_); refine zX (N := 4) (cs := #[.slice none 0 0, .slice none 0 0]) (t := 29) ?_; intro gb256 hg w5 hbox hb; have n0_ := Aside0.mk (IsS67.below (zI671 HI0.out NB0_255.out) hb); have n1_ := Aside0.mk (blk_below (g := gb255) (o := .cells #[.slice A1_0 l1_0.length c1_0, .slice A1_1 l1_1.length c1_1] 74 (0, 0)) (zH BK255.out) hb); have n2_ := Aside0.mk (KeepBut.trans (zK1 HK.out GW255.out) (KeepBut.of_below hb g none) (.inl rfl)); have n3_ := Aside0.mk (below_step (zB2 HB.out (IsS67.ge HI0.out) GE255.out) hb); have n4_ := Aside0.mk (hbox); have n5_ := Aside0.mk ((by rw [hg]; exact (keep_size (w := w) (g := g) (row := none) (zK1 HK.out GW255.out)) : w.heap.size ≤ gb256)); have n6_ := Aside0.mk ((Nat.le_trans HW0.out (by rw [hg]; exact (keep_size (w := w) (g := g) (row := none) (zK1 HK.out GW255.out)) : w.heap.size ≤ gb256) : w0.heap.size ≤ gb256)); have n7_ := Aside0.mk ((by rw [hg]; exact Nat.ne_of_lt (blk_lt (g := gb255) (o := .cells #[.slice A1_0 l1_0.length c1_0, .slice A1_1 l1_1.length c1_1] 74 (0, 0)) (zH BK255.out)) : gb255 ≠ gb256)); have n8_ := Aside0.mk ((by rw [hg]; exact Nat.ne_of_gt (blk_lt (g := gb255) (o := .cells #[.slice A1_0 l1_0.length c1_0, .slice A1_1 l1_1.length c1_1] 74 (0, 0)) (zH BK255.out)) : gb256 ≠ gb255)); have n9_ := Aside0.mk ((by rw [hg]; exact Nat.ne_of_lt (IsS67.lt (show IsS67 w0 _ g s0_0 s0_1 s0_2 from zI671 HI0.out NB0_255.out)) : g ≠ gb256)); have n10_ := Aside0.mk ((by rw [hg]; exact Nat.ne_of_gt (IsS67.lt (show IsS67 w0 _ g s0_0 s0_1 s0_2 from zI671 HI0.out NB0_255.out)) : gb256 ≠ g)); clear HI0; clear BK255; clear HK; clear HB; have HI0 := n0_; have BK255 := n1_; have HK := n2_; have HB := n3_; have BK256 := n4_; have GW256 := n5_; have GE256 := n6_; have NB255_256 := n7_; have NB256_255 := n8_; have NB0_256 := n9_; have NB256_0 := n10_; clear n0_ n1_ n2_ n3_ n4_ n5_ n6_ n7_ n8_ n9_ n10_; clear hb hbox hg) | ((with_reducible refine gate_dst (N := 10) rfl ?_); refine Kd.R_lit (Kd.int .i64) _ 3 ?hg (N := 10) ?hd (xs := ([] : List Int)) (inner := []) (ok := fun _ => True) (okp := fun _ => True) ?hr ?hp (fun _ hk => hk) trivial (Below.refl _ _) (Nat.le_refl _) (by simp) ?_; (case hd => rfl); (case hg => rfl); (case hr => first | (go_simp; done) | (go_simp; rfl)); (case hp => exact (Reps.none _ _)); intro v258 w6 ho7 hb hg_ hnew_; clear hg_ hnew_; (first | rw [← Ny257.out] at ho7 | (simp only [Int.reduceToNat] at ho7; rw [← Ny257.out] at ho7)); have n0_ := Aside0.mk (Kd.R_lower ho7 (keep_size (w := w) (g := g) (row := none) (zK2 HK.out GW255.out GW256.out))); have n1_ := Aside0.mk (IsS67.below (zI672 HI0.out NB0_255.out NB0_256.out) hb); have n2_ := Aside0.mk (blk_below (g := gb255) (o := .cells #[.slice A1_0 l1_0.length c1_0, .slice A1_1 l1_1.length c1_1] 74 (0, 0)) (zH BK255.out) hb); have n3_ := Aside0.mk (blk_below (g := gb256) (o := .cells #[.slice none 0 0, .slice none 0 0] 29 (0, 0)) (zH BK256.out) hb); have n4_ := Aside0.mk (KeepBut.trans (zK2 HK.out GW255.out GW256.out) (KeepBut.of_below hb g none) (.inl rfl)); have n5_ := Aside0.mk (below_step (zB3 HB.out (IsS67.ge HI0.out) GE255.out GE256.out) hb); clear HI0; clear BK255; clear BK256; clear HK; clear HB; have HO259 := n0_; have HI0 := n1_; have BK255 := n2_; have BK256 := n3_; have HK := n4_; have HB := n5_; clear n0_ n1_ n2_ n3_ n4_ n5_; clear hb ho7; have hnb8 := NB255_256.out; have hnc8 := NB256_255.out; have hnb9 := NB255_0.out; have hnc9 := NB0_255.out; have hcz10_0 : w6.cell? ⟨gb255, 0, none⟩ = some (.slice A1_0 l1_0.length c1_0) := (blk_cell BK255.out 0).trans rfl; have hcz10_1 : w6.cell? ⟨gb255, 1, none⟩ = some (.slice A1_1 l1_1.length c1_1) := (blk_cell BK255.out 1).trans rfl; have hfz10_0 := blk_frozen BK255.out 0; have hfz10_1 := blk_frozen BK255.out 1) | ((with_reducible refine gate_builtin (b := .append) (xs := #[.tmp 10, .tmp 12]) rfl ?_); at_builtin; refine Kd.R_append_rows (Kd.int .i64) w.heap.size rfl (.tmp 10) (.tmp 12) 24 3 (.int .i64 0) 8 rfl Tryz.underlying24 info3 rfl (by decide) (by omega) v258 y257 l1_1 _ _ _ (fun _ => True) (fun _ => False) rfl rfl ?aO ?aR (fun _ _ h => h) (fun _ h => h.elim) ?aF (Below.refl _ _) ?aS ?aL ?_; (case aR => exact Kd.C_keep 0 HR1_1.out (zK2 HK.out GW255.out GW256.out) hf1_1); (case aF => exact (fun _ _ => trivial)); (case aO => exact (zR HO259.out)); (case aS => exact (keep_size (w := w) (g := g) (row := none) (zK2 HK.out GW255.out GW256.out))); (case aL => have := LMc3.out; omega); intro v261 w11 ho hb hg hat; rw [← Ny260.out] at ho; have n0_ := Aside0.mk (IsS67.grown (zI672 HI0.out NB0_255.out NB0_256.out) hg (IsS67.own_ne HI0.out HO259.out (by decide))); have n1_ := Aside0.mk (blk_grown (g := gb255) (o := .cells #[.slice A1_0 l1_0.length c1_0, .slice A1_1 l1_1.length c1_1] 74 (0, 0)) (zH BK255.out) hg (Kd.R_ne HO259.out BK255.out (by decide))); have n2_ := Aside0.mk (blk_grown (g := gb256) (o := .cells #[.slice none 0 0, .slice none 0 0] 29 (0, 0)) (zH BK256.out) hg (Kd.R_ne HO259.out BK256.out (by decide))); have n3_ := Aside0.mk (below_weaken (zB3 HB.out (IsS67.ge HI0.out) GE255.out GE256.out) HL.out hb); have n4_ := Aside0.mk (KeepBut.trans (zK2 HK.out GW255.out GW256.out) (KeepBut.of_grown hg g) (Kd.R_base2 HO259.out)); have n5_ := Aside0.mk (ho); clear HI0; clear BK255; clear BK256; clear HB; clear HK; clear HO259; have HI0 := n0_; have BK255 := n1_; have BK256 := n2_; have HB := n3_; have HK := n4_; have HO262 := n5_; clear n0_ n1_ n2_ n3_ n4_ n5_; clear ho hb hg hat; obtain ⟨Ao12, co12, eo12⟩ := Kd.R_slice HO262.out; subst eo12) | ((with_reducible refine gate_dst (N := 5) rfl ?_); refine zX (N := 5) (cs := #[.slice none 0 0, .slice none 0 0]) (t := 29) ?_; intro gb263 hg w13 hbox hb; have n0_ := Aside0.mk (Kd.R_below (zR HO262.out) hb); have n1_ := Aside0.mk (IsS67.below (zI672 HI0.out NB0_255.out NB0_256.out) hb); have n2_ := Aside0.mk (blk_below (g := gb255) (o := .cells #[.slice A1_0 l1_0.length c1_0, .slice A1_1 l1_1.length c1_1] 74 (0, 0)) (zH BK255.out) hb); have n3_ := Aside0.mk (blk_below (g := gb256) (o := .cells #[.slice none 0 0, .slice none 0 0] 29 (0, 0)) (zH BK256.out) hb); have n4_ := Aside0.mk (KeepBut.trans (zK2 HK.out GW255.out GW256.out) (KeepBut.of_below hb g none) (.inl rfl)); have n5_ := Aside0.mk (below_step (zB3 HB.out (IsS67.ge HI0.out) GE255.out GE256.out) hb); have n6_ := Aside0.mk (hbox); have n7_ := Aside0.mk ((by rw [hg]; exact (keep_size (w := w) (g := g) (row := none) (zK2 HK.out GW255.out GW256.out)) : w.heap.size ≤ gb263)); have n8_ := Aside0.mk ((Nat.le_trans HW0.out (by rw [hg]; exact (keep_size (w := w) (g := g) (row := none) (zK2 HK.out GW255.out GW256.out)) : w.heap.size ≤ gb263) : w0.heap.size ≤ gb263)); have n9_ := Aside0.mk ((by rw [hg]; exact Nat.ne_of_lt (blk_lt (g := gb255) (o := .cells #[.slice A1_0 l1_0.length c1_0, .slice A1_1 l1_1.length c1_1] 74 (0, 0)) (zH BK255.out)) : gb255 ≠ gb263)); have n10_ := Aside0.mk ((by rw [hg]; exact Nat.ne_of_gt (blk_lt (g := gb255) (o := .cells #[.slice A1_0 l1_0.length c1_0, .slice A1_1 l1_1.length c1_1] 74 (0, 0)) (zH BK255.out)) : gb263 ≠ gb255)); have n11_ := Aside0.mk ((by rw [hg]; exact Nat.ne_of_lt (blk_lt (g := gb256) (o := .cells #[.slice none 0 0, .slice none 0 0] 29 (0, 0)) (zH BK256.out)) : gb256 ≠ gb263)); have n12_ := Aside0.mk ((by rw [hg]; exact Nat.ne_of_gt (blk_lt (g := gb256) (o := .cells #[.slice none 0 0, .slice none 0 0] 29 (0, 0)) (zH BK256.out)) : gb263 ≠ gb256)); have n13_ := Aside0.mk ((by rw [hg]; exact Nat.ne_of_lt (IsS67.lt (show IsS67 w0 _ g s0_0 s0_1 s0_2 from zI672 HI0.out NB0_255.out NB0_256.out)) : g ≠ gb263)); have n14_ := Aside0.mk ((by rw [hg]; exact Nat.ne_of_gt (IsS67.lt (show IsS67 w0 _ g s0_0 s0_1 s0_2 from zI672 HI0.out NB0_255.out NB0_256.out)) : gb263 ≠ g)); clear HO262; clear HI0; clear BK255; clear BK256; clear HK; clear HB; have HO262 := n0_; have HI0 := n1_; have BK255 := n2_; have BK256 := n3_; have HK := n4_; have HB := n5_; have BK263 := n6_; have GW263 := n7_; have GE263 := n8_; have NB255_263 := n9_; have NB263_255 := n10_; have NB256_263 := n11_; have NB263_256 := n12_; have NB0_263 := n13_; have NB263_0 := n14_; clear n0_ n1_ n2_ n3_ n4_ n5_ n6_ n7_ n8_ n9_ n10_ n11_ n12_ n13_ n14_; clear hb hbox hg; have hnb14 := NB263_255.out; have hnc14 := NB255_263.out; have hnb15 := NB263_256.out; have hnc15 := NB256_263.out; have hnb16 := NB263_0.out; have hnc16 := NB0_263.out; have hcz17_0 : w13.cell? ⟨gb263, 0, none⟩ = some (.slice none 0 0) := (blk_cell BK263.out 0).trans rfl; have hcz17_1 : w13.cell? ⟨gb263, 1, none⟩ = some (.slice none 0 0) := (blk_cell BK263.out 1).trans rfl; have hfz17_0 := blk_frozen BK263.out 0; have hfz17_1 := blk_frozen BK263.out 1))
  go_loopg [6] k (fun kq v6 w' => ∃ (x6_1 : Int) (x1001_1 : Int) (x1002_1 : Int) (x264001_1 : List (List Int)) (u264001 : Value), v6 = .int .i64 x6_1 ∧ Aside0 (spec_l5Fill.l0 kq x6_1 s0_0 x1001_1 x1002_1 l1_0 l1_1 y260 x264001_1 = some (r1, r2, r3, r4)) ∧ Aside0 (kq ≤ k) ∧ Aside0 (Kd.R (Kd.int .i64) 3 w' w.heap.size (fun _ => True) (.slice Ao12 y260.length co12) y260) ∧ Aside0 (Kd.S (Kd.slice 3 (Kd.int .i64)) 24 w' w.heap.size (fun k_ => some k_ ≠ ((.slice Ao12 y260.length co12) : Value).ownBlock) u264001 x264001_1) ∧ Aside0 (w'.heap[gb255]? = some (.cells #[(.slice A1_0 l1_0.length c1_0), (.slice A1_1 l1_1.length c1_1)] 74 (0, 0))) ∧ Aside0 (w'.heap[gb256]? = some (.cells #[(.slice none 0 0), (.slice none 0 0)] 29 (0, 0))) ∧ Aside0 (w'.heap[gb263]? = some (.cells #[(.slice Ao12 y260.length co12), u264001] 29 (0, 0))) ∧ Aside0 (IsS67 w0 w' g s0_0 x1001_1 x1002_1) ∧ Aside0 (KeepBut w w' g none) ∧ Aside0 (Below w0.heap.size w0 w'))
  case atStart => exact ⟨(0), (s0_1), (s0_2), (([] : List (List Int))), (.slice none 0 0), zs, H', ⟨Nat.le_refl _⟩, ⟨zR (Kd.R_mono (Kd.R_far (p := ⟨gb263, 1, none⟩) (Kd.R_far (p := ⟨gb263, 0, none⟩) (Kd.R_types HO262.out BK263.out (by decide)) (fun _ hk => hk.2) (.slice Ao12 y260.length co12)) (fun _ hk => hk.2) (.slice none 0 0)) (fun _ hk => trivial))⟩, ⟨by first | exact Kd.S_nil _ _ _ _ _ | exact Kd.N_nil _ _ _ _ _ | exact Kd.V_nil _ _ _ _ _ | exact Kd.Q_nil _ _ _ _ _ | exact Kd.R_nil _ _ _ _ _⟩, ⟨by (with_reducible repeat (first | refine blk_drewN ?_ _ | refine blk_drew ?_ | refine blk_alloc ?_ _)); refine blk_far ?_ NB255_263.out _; (with_reducible repeat (first | refine blk_drewN ?_ _ | refine blk_drew ?_ | refine blk_alloc ?_ _)); refine blk_far ?_ NB255_263.out _; (with_reducible repeat (first | refine blk_drewN ?_ _ | refine blk_drew ?_ | refine blk_alloc ?_ _)); exact BK255.out⟩, ⟨by (with_reducible repeat (first | refine blk_drewN ?_ _ | refine blk_drew ?_ | refine blk_alloc ?_ _)); refine blk_far ?_ NB256_263.out _; (with_reducible repeat (first | refine blk_drewN ?_ _ | refine blk_drew ?_ | refine blk_alloc ?_ _)); refine blk_far ?_ NB256_263.out _; (with_reducible repeat (first | refine blk_drewN ?_ _ | refine blk_drew ?_ | refine blk_alloc ?_ _)); exact BK256.out⟩, ⟨by (with_reducible repeat (first | refine blk_drewN ?_ _ | refine blk_drew ?_ | refine blk_alloc ?_ _)); refine blk_put (cs := #[.slice Ao12 y260.length co12, .slice none 0 0]) ?_ 1 _ rfl; (with_reducible repeat (first | refine blk_drewN ?_ _ | refine blk_drew ?_ | refine blk_alloc ?_ _)); refine blk_put (cs := #[.slice none 0 0, .slice none 0 0]) ?_ 0 _ rfl; (with_reducible repeat (first | refine blk_drewN ?_ _ | refine blk_drew ?_ | refine blk_alloc ?_ _)); exact BK263.out⟩, ⟨zI673 HI0.out NB0_255.out NB0_256.out NB0_263.out⟩, ⟨zK3 HK.out GW255.out GW256.out GW263.out⟩, ⟨zB4 HB.out (IsS67.ge HI0.out) GE255.out GE256.out GE263.out⟩⟩
  case round =>
   clear H'
   try clear c1
   try clear p2
   try clear c3
   try clear c7
   try clear c8
   try clear c9
   try clear c14
   try clear c15
   try clear c16
   try clear hcz10_0
   try clear hcz10_1
   try clear hcz17_0
   try clear hcz17_1
   try clear hfz10_0
   try clear hfz10_1
   try clear hfz17_0
   try clear hfz17_1
   obtain ⟨x6_1, x1001_1, x1002_1, x264001_1, u264001, rfl, HA, HK1, HO_264000, HO_264001, BK255, BK256, BK263, HI0, HK, HB⟩ := hrel
   cases gk with
   | zero => exact absurd HA.out (by simp [spec_l5Fill.l0])
   | succ k1 =>
    have H := HA.out
    clear HA
    simp only [spec_l5Fill.l0] at H
    by_cases c18 : x6_1 < (l1_0.length : Int)
    ·rw [if_pos c18] at H
     have c18b0 : decide (x6_1 < (l1_0.length : Int)) = true := decide_eq_true c18
     clear c18
     obtain ⟨y264, hy264⟩ : ∃ y_ : List Int, y_ = (([] : List Int)) := ⟨_, rfl⟩
     replace H : ((spec_l2At.f l1_1 x6_1).bind fun t267 => (spec_l5Fill.l1 k1 x6_1 y264 1 t267 s0_0 x1001_1 x1002_1 l1_0 l1_1 y260 x264001_1)) = some (r1, r2, r3, r4) := zY hy264 H
     have Ny264 := Aside0.mk hy264
     clear hy264
     replace H := Option.bind_eq_some_iff.mp H
     obtain ⟨t267, A190, H⟩ := H
     replace H : (spec_l5Fill.l1 k1 x6_1 y264 1 t267 s0_0 x1001_1 x1002_1 l1_0 l1_1 y260 x264001_1) = some (r1, r2, r3, r4) := H
     have A19 := Aside0.mk A190
     clear A190
     have H' := Aside0.mk H
     clear H
     have hnb20 := NB255_256.out
     have hnc20 := NB256_255.out
     have hnb21 := NB255_263.out
     have hnc21 := NB263_255.out
     have hnb22 := NB255_0.out
     have hnc22 := NB0_255.out
     have hcz23_0 : wr.cell? ⟨gb255, 0, none⟩ = some (.slice A1_0 l1_0.length c1_0) := (blk_cell BK255.out 0).trans rfl
     have hcz23_1 : wr.cell? ⟨gb255, 1, none⟩ = some (.slice A1_1 l1_1.length c1_1) := (blk_cell BK255.out 1).trans rfl
     have hfz23_0 := blk_frozen BK255.out 0
     have hfz23_1 := blk_frozen BK255.out 1
     go_wp2_with (first | ((with_reducible refine gate_dst (N := 22) rfl ?_); refine Kd.R_lit (Kd.int .i64) _ 3 ?hg (N := 22) ?hd (xs := ([] : List Int)) (inner := []) (ok := fun _ => True) (okp := fun _ => True) ?hr ?hp (fun _ hk => hk) trivial (Below.refl _ _) (Nat.le_refl _) (by simp) ?_; (case hd => rfl); (case hg => rfl); (case hr => first | (go_simp; done) | (go_simp; rfl)); (case hp => exact (Reps.none _ _)); intro v265 w24 ho25 hb hg_ hnew_; clear hg_ hnew_; (first | rw [← Ny264.out] at ho25 | (simp only [Int.reduceToNat] at ho25; rw [← Ny264.out] at ho25)); have n0_ := Aside0.mk (Kd.R_elder' (zR HO_264000.out) (Kd.R_base ho25) hb); have n1_ := Aside0.mk (Kd.S_elder' (zS HO_264001.out) (Kd.R_base ho25) hb); have n2_ := Aside0.mk (Kd.R_lower (Kd.R_new' ho25 (Kd.R_lt (zR HO_264000.out))) (keep_size (w := w) (g := g) (row := none) (zK3 HK.out GW255.out GW256.out GW263.out))); have n3_ := Aside0.mk (blk_below (g := gb255) (o := .cells #[.slice A1_0 l1_0.length c1_0, .slice A1_1 l1_1.length c1_1] 74 (0, 0)) (zH BK255.out) hb); have n4_ := Aside0.mk (blk_below (g := gb256) (o := .cells #[.slice none 0 0, .slice none 0 0] 29 (0, 0)) (zH BK256.out) hb); have n5_ := Aside0.mk (blk_below (g := gb263) (o := .cells #[.slice Ao12 y260.length co12, u264001] 29 (0, 0)) (zH BK263.out) hb); have n6_ := Aside0.mk (IsS67.below (zI673 HI0.out NB0_255.out NB0_256.out NB0_263.out) hb); have n7_ := Aside0.mk (KeepBut.trans (zK3 HK.out GW255.out GW256.out GW263.out) (KeepBut.of_below hb g none) (.inl rfl)); have n8_ := Aside0.mk (below_step (zB4 HB.out (IsS67.ge HI0.out) GE255.out GE256.out GE263.out) hb); clear HO_264000; clear HO_264001; clear BK255; clear BK256; clear BK263; clear HI0; clear HK; clear HB; have HO_264000 := n0_; have HO_264001 := n1_; have HO266 := n2_; have BK255 := n3_; have BK256 := n4_; have BK263 := n5_; have HI0 := n6_; have HK := n7_; have HB := n8_; clear n0_ n1_ n2_ n3_ n4_ n5_ n6_ n7_ n8_; clear hb ho25; have hcz26_0 : w24.cell? ⟨gb255, 0, none⟩ = some (.slice A1_0 l1_0.length c1_0) := (blk_cell BK255.out 0).trans rfl; have hcz26_1 : w24.cell? ⟨gb255, 1, none⟩ = some (.slice A1_1 l1_1.length c1_1) := (blk_cell BK255.out 1).trans rfl; have hfz26_0 := blk_frozen BK255.out 0; have hfz26_1 := blk_frozen BK255.out 1) | ((with_reducible refine gate_callee (f := 65) rfl ?_); refine zG (some 26) Tryz.func65 #[.slice A1_1 l1_1.length c1_1, .int .i64 x6_1] ?_; (with_reducible refine (spec_l2At.calls _ _ l1_1 x6_1 t267 _ ?side1 ?side2 A19.out).mono ?_); (case side1 => exact Kd.C_keep 0 HR1_1.out (zK3 HK.out GW255.out GW256.out GW263.out) hf1_1); (case side2 => exact HC1_1.out); rintro e w' ⟨rfl, ⟨nd, rfl⟩⟩; refine ⟨_, rfl, ?_⟩))
     go_loopg [7, 8, 9] k1 (fun kq v7 v8 v9 w' => ∃ (x7_2 : List Int) (x8_2 : Int) (x9_2 : Int) (x1001_2 : Int) (x1002_2 : Int), v8 = .int .i64 x8_2 ∧ v9 = .int .i64 x9_2 ∧ Aside0 (spec_l5Fill.l1 kq x6_1 x7_2 x8_2 x9_2 s0_0 x1001_2 x1002_2 l1_0 l1_1 y260 x264001_1 = some (r1, r2, r3, r4)) ∧ Aside0 (kq ≤ k1) ∧ Aside0 (Kd.R (Kd.int .i64) 3 w' w.heap.size (fun k_ => some k_ ≠ ((.slice Ao12 y260.length co12) : Value).ownBlock) v7 x7_2) ∧ Aside0 (Kd.R (Kd.int .i64) 3 w' w.heap.size (fun k_ => some k_ ≠ (v7 : Value).ownBlock) (.slice Ao12 y260.length co12) y260) ∧ Aside0 (Kd.S (Kd.slice 3 (Kd.int .i64)) 24 w' w.heap.size (fun k_ => some k_ ≠ (v7 : Value).ownBlock ∧ some k_ ≠ ((.slice Ao12 y260.length co12) : Value).ownBlock) u264001 x264001_1) ∧ Aside0 (w'.heap[gb255]? = some (.cells #[(.slice A1_0 l1_0.length c1_0), (.slice A1_1 l1_1.length c1_1)] 74 (0, 0))) ∧ Aside0 (w'.heap[gb256]? = some (.cells #[(.slice none 0 0), (.slice none 0 0)] 29 (0, 0))) ∧ Aside0 (w'.heap[gb263]? = some (.cells #[(.slice Ao12 y260.length co12), u264001] 29 (0, 0))) ∧ Aside0 (IsS67 w0 w' g s0_0 x1001_2 x1002_2) ∧ Aside0 (KeepBut w w' g none) ∧ Aside0 (Below w0.heap.size w0 w'))
     case atStart => exact ⟨(y264), (1), (t267), (x1001_1), (x1002_1), zs, zs, H', ⟨Nat.le_refl _⟩, ⟨zR (Kd.R_mono HO266.out (fun _ hk => hk.2))⟩, ⟨zR (Kd.R_mono HO_264000.out (fun _ hk => hk.2))⟩, ⟨zS (Kd.S_mono HO_264001.out (fun _ hk => ⟨hk.2, hk.1⟩))⟩, ⟨zH BK255.out⟩, ⟨zH BK256.out⟩, ⟨zH BK263.out⟩, ⟨zI673 HI0.out NB0_255.out NB0_256.out NB0_263.out⟩, ⟨zK3 HK.out GW255.out GW256.out GW263.out⟩, ⟨zB4 HB.out (IsS67.ge HI0.out) GE255.out GE256.out GE263.out⟩⟩
     case round =>
      clear H'
      try clear c1
      try clear c2
      try clear p2
      try clear c3
      try clear c6
      try clear c7
      try clear c8
      try clear c9
      try clear c14
      try clear c15
      try clear c16
      try clear c18
      try clear c18b0
      try clear c20
      try clear c21
      try clear c22
      try clear hcz10_0
      try clear hcz10_1
      try clear hcz17_0
      try clear hcz17_1
      try clear hcz23_0
      try clear hcz23_1
      try clear hcz26_0
      try clear hcz26_1
      try clear hfz10_0
      try clear hfz10_1
      try clear hfz17_0
      try clear hfz17_1
      try clear hfz23_0
      try clear hfz23_1
      try clear hfz26_0
      try clear hfz26_1
      try clear p2
      obtain ⟨x7_2, x8_2, x9_2, x1001_2, x1002_2, rfl, rfl, HA, HK2, HO_7, HO_264000, HO_264001, BK255, BK256, BK263, HI0, HK, HB⟩ := hrel
      cases gk with
      | zero => exact absurd HA.out (by simp [spec_l5Fill.l1])
      | succ k2 =>
       have H := HA.out
       clear HA
       simp only [spec_l5Fill.l1] at H
       by_cases c27 : 0 ≤ x6_1
       ·rw [if_pos c27] at H
        have c27b0 : decide (0 ≤ x6_1) = true := decide_eq_true c27
        clear c27
        by_cases c28 : x6_1 < (l1_0.length : Int)
        ·rw [if_pos c28] at H
         have c28b0 : decide (x6_1 < (l1_0.length : Int)) = true := decide_eq_true c28
         clear c28
         by_cases c29 : x9_2 < (rd l1_0 x6_1)
         ·rw [if_pos c29] at H
          have c29b0 : decide (x9_2 < (rd l1_0 x6_1)) = true := decide_eq_true c29
          clear c29
          replace H := Option.bind_eq_some_iff.mp H
          obtain ⟨t272, A300, H⟩ := H
          replace H : ((spec_l1Max.f x8_2 (wrap64 (t272 + 1))).bind fun t273 => ((spec_l1Once.f s0_0 x1001_2 x1002_2 3).bind fun bt274 => ((spec_l1Bit.f bt274.1).bind fun t277 => ((spec_l1Below.f s0_0 bt274.2.1 bt274.2.2 2).bind fun bt278 => ((spec_l1Min.f (wrap64 (t273 + (wrap64 (t277 * bt278.1)))) 9).bind fun t281 => (if x7_2.length < 17592186044416 then (spec_l5Fill.l1 k2 x6_1 (x7_2 ++ [t281]) t281 (wrap64 (x9_2 + 1)) s0_0 bt278.2.1 bt278.2.2 l1_0 l1_1 y260 x264001_1) else (none))))))) = some (r1, r2, r3, r4) := H
          have A30 := Aside0.mk A300
          clear A300
          replace H := Option.bind_eq_some_iff.mp H
          obtain ⟨t273, A310, H⟩ := H
          replace H : ((spec_l1Once.f s0_0 x1001_2 x1002_2 3).bind fun bt274 => ((spec_l1Bit.f bt274.1).bind fun t277 => ((spec_l1Below.f s0_0 bt274.2.1 bt274.2.2 2).bind fun bt278 => ((spec_l1Min.f (wrap64 (t273 + (wrap64 (t277 * bt278.1)))) 9).bind fun t281 => (if x7_2.length < 17592186044416 then (spec_l5Fill.l1 k2 x6_1 (x7_2 ++ [t281]) t281 (wrap64 (x9_2 + 1)) s0_0 bt278.2.1 bt278.2.2 l1_0 l1_1 y260 x264001_1) else (none)))))) = some (r1, r2, r3, r4) := H
          have A31 := Aside0.mk A310
          clear A310
          replace H := Option.bind_eq_some_iff.mp H
          obtain ⟨⟨t274, t275, t276⟩, A320, H⟩ := H
          replace H : ((spec_l1Bit.f t274).bind fun t277 => ((spec_l1Below.f s0_0 t275 t276 2).bind fun bt278 => ((spec_l1Min.f (wrap64 (t273 + (wrap64 (t277 * bt278.1)))) 9).bind fun t281 => (if x7_2.length < 17592186044416 then (spec_l5Fill.l1 k2 x6_1 (x7_2 ++ [t281]) t281 (wrap64 (x9_2 + 1)) s0_0 bt278.2.1 bt278.2.2 l1_0 l1_1 y260 x264001_1) else (none))))) = some (r1, r2, r3, r4) := H
          have A32 := Aside0.mk A320
          clear A320
          replace H := Option.bind_eq_some_iff.mp H
          obtain ⟨t277, A330, H⟩ := H
          replace H : ((spec_l1Below.f s0_0 t275 t276 2).bind fun bt278 => ((spec_l1Min.f (wrap64 (t273 + (wrap64 (t277 * bt278.1)))) 9).bind fun t281 => (if x7_2.length < 17592186044416 then (spec_l5Fill.l1 k2 x6_1 (x7_2 ++ [t281]) t281 (wrap64 (x9_2 + 1)) s0_0 bt278.2.1 bt278.2.2 l1_0 l1_1 y260 x264001_1) else (none)))) = some (r1, r2, r3, r4) := H
          have A33 := Aside0.mk A330
          clear A330
          replace H := Option.bind_eq_some_iff.mp H
          obtain ⟨⟨t278, t279, t280⟩, A340, H⟩ := H
          replace H : ((spec_l1Min.f (wrap64 (t273 + (wrap64 (t277 * t278)))) 9).bind fun t281 => (if x7_2.length < 17592186044416 then (spec_l5Fill.l1 k2 x6_1 (x7_2 ++ [t281]) t281 (wrap64 (x9_2 + 1)) s0_0 t279 t280 l1_0 l1_1 y260 x264001_1) else (none))) = some (r1, r2, r3, r4) := H
          have A34 := Aside0.mk A340
          clear A340
          replace H := Option.bind_eq_some_iff.mp H
          obtain ⟨t281, A350, H⟩ := H
          replace H : (if x7_2.length < 17592186044416 then (spec_l5Fill.l1 k2 x6_1 (x7_2 ++ [t281]) t281 (wrap64 (x9_2 + 1)) s0_0 t279 t280 l1_0 l1_1 y260 x264001_1) else (none)) = some (r1, r2, r3, r4) := H
          have A35 := Aside0.mk A350
          clear A350
          by_cases c36 : x7_2.length < 17592186044416
          ·rw [if_pos c36] at H
           have LMc36 := Aside0.mk c36
           clear c36
           obtain ⟨y282, hy282⟩ : ∃ y_ : List Int, y_ = (x7_2 ++ [t281]) := ⟨_, rfl⟩
           replace H : (spec_l5Fill.l1 k2 x6_1 y282 t281 (wrap64 (x9_2 + 1)) s0_0 t279 t280 l1_0 l1_1 y260 x264001_1) = some (r1, r2, r3, r4) := zY hy282 H
           have Ny282 := Aside0.mk hy282
           clear hy282
           have H' := Aside0.mk H
           clear H
           have hnb37 := NB255_256.out
           have hnc37 := NB256_255.out
           have hnb38 := NB255_263.out
           have hnc38 := NB263_255.out
           have hnb39 := NB255_0.out
           have hnc39 := NB0_255.out
           have hcz40_0 : wr.cell? ⟨gb255, 0, none⟩ = some (.slice A1_0 l1_0.length c1_0) := (blk_cell BK255.out 0).trans rfl
           have hcz40_1 : wr.cell? ⟨gb255, 1, none⟩ = some (.slice A1_1 l1_1.length c1_1) := (blk_cell BK255.out 1).trans rfl
           have hfz40_0 := blk_frozen BK255.out 0
           have hfz40_1 := blk_frozen BK255.out 1
           have p268 : 0 ≤ (x6_1 : Int) := zd
           have q268 : x6_1 < (l1_0.length : Int) := zd
           obtain ⟨ad268, e268, hx268_0⟩ := Kd.at_int HR1_0.out x6_1 p268 q268
           cases e268
           replace hx268_0 := keep_cell HK.out hx268_0 (by first | (rw [add_block]; exact hf1_0 _ rfl (by omega)) | exact hf1_0 _ rfl (by omega) | exact hf1_0 ad268 rfl (by omega))
           replace p268 := eq_true p268
           replace q268 := eq_true q268
           have hnb41 := NB263_256.out
           have hnc41 := NB256_263.out
           have hnb42 := NB263_0.out
           have hnc42 := NB0_263.out
           have hcz43_0 : wr.cell? ⟨gb263, 0, none⟩ = some (.slice Ao12 y260.length co12) := (blk_cell BK263.out 0).trans rfl
           have hcz43_1 : wr.cell? ⟨gb263, 1, none⟩ = some (u264001) := (blk_cell BK263.out 1).trans rfl
           have hfz43_0 := blk_frozen BK263.out 0
           have hfz43_1 := blk_frozen BK263.out 1
           obtain ⟨Ao44, co44, eo44⟩ := Kd.S_slice HO_264001.out
           subst eo44
           go_wp2_with (first | ((with_reducible refine gate_callee (f := 66) rfl ?_); refine zG (some 41) Tryz.func66 #[.agg #[.slice Ao12 y260.length co12, .slice Ao44 x264001_1.length co44], .int .i64 (wrap64 (x6_1 - 1)), .int .i64 x9_2] ?_; (with_reducible refine (spec_l5Entry.calls k2 _ _ y260 _ _ x264001_1 (wrap64 (x6_1 - 1)) x9_2 t272 _ ?side1 ?side2 ?side3 ?side4 A30.out).mono ?_); (case side1 => exact zQ (Kd.R_reads' HO_264000.out).2.2); (case side2 => exact (Kd.R_reads' HO_264000.out).2.1); (case side3 => repeat (first | exact (Kd.S_reads' HO_264001.out).2.2 | (with_reducible refine Kd.C_alloc ?_ _) | (with_reducible refine Kd.C_drewN ?_ _) | (with_reducible refine Kd.C_drew ?_))); (case side4 => exact (Kd.S_reads' HO_264001.out).2.1); rintro e w45 ⟨rfl, hb⟩; refine ⟨_, rfl, ?_⟩; have n0_ := Aside0.mk (Kd.R_below (zR HO_7.out) hb); have n1_ := Aside0.mk (Kd.R_below (zR HO_264000.out) hb); have n2_ := Aside0.mk (Kd.S_below (zS HO_264001.out) hb); have n3_ := Aside0.mk (blk_below (g := gb255) (o := .cells #[.slice (some ad268) l1_0.length c1_0, .slice A1_1 l1_1.length c1_1] 74 (0, 0)) (zH BK255.out) hb); have n4_ := Aside0.mk (blk_below (g := gb256) (o := .cells #[.slice none 0 0, .slice none 0 0] 29 (0, 0)) (zH BK256.out) hb); have n5_ := Aside0.mk (blk_below (g := gb263) (o := .cells #[.slice Ao12 y260.length co12, .slice Ao44 x264001_1.length co44] 29 (0, 0)) (zH BK263.out) hb); have n6_ := Aside0.mk (IsS67.below (zI673 HI0.out NB0_255.out NB0_256.out NB0_263.out) hb); have n7_ := Aside0.mk (KeepBut.trans (zK3 HK.out GW255.out GW256.out GW263.out) (KeepBut.of_below hb g none) (.inl rfl)); have n8_ := Aside0.mk (below_step (zB4 HB.out (IsS67.ge HI0.out) GE255.out GE256.out GE263.out) hb); clear HO_7; clear HO_264000; clear HO_264001; clear BK255; clear BK256; clear BK263; clear HI0; clear HK; clear HB; have HO_7 := n0_; have HO_264000 := n1_; have HO_264001 := n2_; have BK255 := n3_; have BK256 := n4_; have BK263 := n5_; have HI0 := n6_; have HK := n7_; have HB := n8_; clear n0_ n1_ n2_ n3_ n4_ n5_ n6_ n7_ n8_; (try clear hb); (try clear hb2); (try clear hk); (try clear hi)) | ((with_reducible refine gate_callee (f := 79) rfl ?_); refine zG (some 43) Tryz.func79 #[.int .i64 x8_2, .int .i64 (wrap64 (t272 + 1))] ?_; (with_reducible refine (spec_l1Max.calls x8_2 (wrap64 (t272 + 1)) t273 _ A31.out).mono ?_); rintro e w' ⟨rfl, ⟨nd, rfl⟩⟩; refine ⟨_, rfl, ?_⟩) | ((with_reducible refine gate_callee (f := 34) rfl ?_); refine zG (some 46) Tryz.func34 #[.pointer (some ⟨g, 0, none⟩), .int .i64 3] ?_; (with_reducible refine (spec_l1Once.calls g s0_0 x1001_2 x1002_2 3 t274 t275 t276 w0 _ ?side1 ?side2 A32.out).mono ?_); (case side1 => exact zI673 HI0.out NB0_255.out NB0_256.out NB0_263.out); (case side2 => exact zB4 HB.out (IsS67.ge HI0.out) GE255.out GE256.out GE263.out); rintro e w46 ⟨rfl, hi, hb, hk⟩; refine ⟨_, rfl, ?_⟩; have n0_ := Aside0.mk (Kd.R_mono (Kd.R_keep (IsS67.apart (show IsS67 w0 _ g s0_0 x1001_2 x1002_2 from zI673 HI0.out NB0_255.out NB0_256.out NB0_263.out) (zR HO_7.out) (by decide)) hk (fun _ h => h.2)) (fun _ h => h.1)); have n1_ := Aside0.mk (Kd.R_mono (Kd.R_keep (IsS67.apart (show IsS67 w0 _ g s0_0 x1001_2 x1002_2 from zI673 HI0.out NB0_255.out NB0_256.out NB0_263.out) (zR HO_264000.out) (by decide)) hk (fun _ h => h.2)) (fun _ h => h.1)); have n2_ := Aside0.mk (Kd.S_mono (Kd.S_keep (IsS67.apartS (show IsS67 w0 _ g s0_0 x1001_2 x1002_2 from zI673 HI0.out NB0_255.out NB0_256.out NB0_263.out) (zS HO_264001.out) (by decide)) hk (fun _ h => h.2)) (fun _ h => h.1)); have n3_ := Aside0.mk (KeepBut.blk hk (g' := gb255) (o := .cells #[.slice (some ad268) l1_0.length c1_0, .slice A1_1 l1_1.length c1_1] 74 (0, 0)) (zH BK255.out) NB255_0.out (by simp)); have n4_ := Aside0.mk (KeepBut.blk hk (g' := gb256) (o := .cells #[.slice none 0 0, .slice none 0 0] 29 (0, 0)) (zH BK256.out) NB256_0.out (by simp)); have n5_ := Aside0.mk (KeepBut.blk hk (g' := gb263) (o := .cells #[.slice Ao12 y260.length co12, .slice Ao44 x264001_1.length co44] 29 (0, 0)) (zH BK263.out) NB263_0.out (by simp)); have n6_ := Aside0.mk (KeepBut.trans (zK3 HK.out GW255.out GW256.out GW263.out) hk (.inl rfl)); have n7_ := Aside0.mk (hb); have n8_ := Aside0.mk (hi); clear HO_7; clear HO_264000; clear HO_264001; clear BK255; clear BK256; clear BK263; clear HK; clear HB; clear HI0; have HO_7 := n0_; have HO_264000 := n1_; have HO_264001 := n2_; have BK255 := n3_; have BK256 := n4_; have BK263 := n5_; have HK := n6_; have HB := n7_; have HI0 := n8_; clear n0_ n1_ n2_ n3_ n4_ n5_ n6_ n7_ n8_; (try clear hb); (try clear hb2); (try clear hk); (try clear hi)) | ((with_reducible refine gate_callee (f := 43) rfl ?_); refine zG (some 47) Tryz.func43 #[.bool t274] ?_; (with_reducible refine (spec_l1Bit.calls t274 t277 _ A33.out).mono ?_); rintro e w' ⟨rfl, ⟨nd, rfl⟩⟩; refine ⟨_, rfl, ?_⟩) | ((with_reducible refine gate_callee (f := 36) rfl ?_); refine zG (some 49) Tryz.func36 #[.pointer (some ⟨g, 0, none⟩), .int .i64 2] ?_; (with_reducible refine (spec_l1Below.calls g s0_0 t275 t276 2 t278 t279 t280 w0 _ ?side1 ?side2 A34.out).mono ?_); (case side1 => exact zI673 HI0.out NB0_255.out NB0_256.out NB0_263.out); (case side2 => exact zB4 HB.out (IsS67.ge HI0.out) GE255.out GE256.out GE263.out); rintro e w47 ⟨rfl, hi, hb, hk⟩; refine ⟨_, rfl, ?_⟩; have n0_ := Aside0.mk (Kd.R_mono (Kd.R_keep (IsS67.apart (show IsS67 w0 _ g s0_0 t275 t276 from zI673 HI0.out NB0_255.out NB0_256.out NB0_263.out) (zR HO_7.out) (by decide)) hk (fun _ h => h.2)) (fun _ h => h.1)); have n1_ := Aside0.mk (Kd.R_mono (Kd.R_keep (IsS67.apart (show IsS67 w0 _ g s0_0 t275 t276 from zI673 HI0.out NB0_255.out NB0_256.out NB0_263.out) (zR HO_264000.out) (by decide)) hk (fun _ h => h.2)) (fun _ h => h.1)); have n2_ := Aside0.mk (Kd.S_mono (Kd.S_keep (IsS67.apartS (show IsS67 w0 _ g s0_0 t275 t276 from zI673 HI0.out NB0_255.out NB0_256.out NB0_263.out) (zS HO_264001.out) (by decide)) hk (fun _ h => h.2)) (fun _ h => h.1)); have n3_ := Aside0.mk (KeepBut.blk hk (g' := gb255) (o := .cells #[.slice (some ad268) l1_0.length c1_0, .slice A1_1 l1_1.length c1_1] 74 (0, 0)) (zH BK255.out) NB255_0.out (by simp)); have n4_ := Aside0.mk (KeepBut.blk hk (g' := gb256) (o := .cells #[.slice none 0 0, .slice none 0 0] 29 (0, 0)) (zH BK256.out) NB256_0.out (by simp)); have n5_ := Aside0.mk (KeepBut.blk hk (g' := gb263) (o := .cells #[.slice Ao12 y260.length co12, .slice Ao44 x264001_1.length co44] 29 (0, 0)) (zH BK263.out) NB263_0.out (by simp)); have n6_ := Aside0.mk (KeepBut.trans (zK3 HK.out GW255.out GW256.out GW263.out) hk (.inl rfl)); have n7_ := Aside0.mk (hb); have n8_ := Aside0.mk (hi); clear HO_7; clear HO_264000; clear HO_264001; clear BK255; clear BK256; clear BK263; clear HK; clear HB; clear HI0; have HO_7 := n0_; have HO_264000 := n1_; have HO_264001 := n2_; have BK255 := n3_; have BK256 := n4_; have BK263 := n5_; have HK := n6_; have HB := n7_; have HI0 := n8_; clear n0_ n1_ n2_ n3_ n4_ n5_ n6_ n7_ n8_; (try clear hb); (try clear hb2); (try clear hk); (try clear hi)) | ((with_reducible refine gate_callee (f := 80) rfl ?_); refine zG (some 52) Tryz.func80 #[.int .i64 (wrap64 (t273 + (wrap64 (t277 * t278)))), .int .i64 9] ?_; (with_reducible refine (spec_l1Min.calls (wrap64 (t273 + (wrap64 (t277 * t278)))) 9 t281 _ A35.out).mono ?_); rintro e w' ⟨rfl, ⟨nd, rfl⟩⟩; refine ⟨_, rfl, ?_⟩) | ((with_reducible refine gate_builtin (b := .append) (xs := #[.tmp 53, .tmp 55]) rfl ?_); at_builtin; refine Kd.R_append (Kd.int .i64) w.heap.size rfl (.tmp 53) (.tmp 55) 24 3 (.int .i64 0) 8 rfl Tryz.underlying24 info3 rfl (by decide) (by omega) u7 x7_2 t281 [.int .i64 t281] (fun k_ => some k_ ≠ (.slice Ao12 y260.length co12 : Value).ownBlock) (fun _ => False) rfl rfl ?aP (fun _ hk => hk.elim) ?aF ?aO (Below.refl _ _) ?aS ?aL ?_; (case aP => exact rfl); (case aF => exact (fun k_ hk => Kd.fresh' (Kd.R_lt (zR HO_264000.out)) k_ hk)); (case aO => exact (zR HO_7.out)); (case aS => exact (keep_size (w := w) (g := g) (row := none) (zK3 HK.out GW255.out GW256.out GW263.out))); (case aL => have := LMc36.out; omega); intro v283 w48 ho hb hg hat; rw [← Ny282.out] at ho; have n0_ := Aside0.mk (Kd.R_after (ok := (fun _ => True)) (zR (Kd.R_mono HO_264000.out (fun _ hk => ⟨trivial, hk⟩))) hg hat); have n1_ := Aside0.mk (Kd.S_after (ok := (fun k_ => some k_ ≠ (.slice Ao12 y260.length co12 : Value).ownBlock)) (zS (Kd.S_mono HO_264001.out (fun _ hk => ⟨hk.2, hk.1⟩))) hg hat); have n2_ := Aside0.mk (blk_grown (g := gb255) (o := .cells #[.slice (some ad268) l1_0.length c1_0, .slice A1_1 l1_1.length c1_1] 74 (0, 0)) (zH BK255.out) hg (Kd.R_ne HO_7.out BK255.out (by decide))); have n3_ := Aside0.mk (blk_grown (g := gb256) (o := .cells #[.slice none 0 0, .slice none 0 0] 29 (0, 0)) (zH BK256.out) hg (Kd.R_ne HO_7.out BK256.out (by decide))); have n4_ := Aside0.mk (blk_grown (g := gb263) (o := .cells #[.slice Ao12 y260.length co12, .slice Ao44 x264001_1.length co44] 29 (0, 0)) (zH BK263.out) hg (Kd.R_ne HO_7.out BK263.out (by decide))); have n5_ := Aside0.mk (IsS67.grown (zI673 HI0.out NB0_255.out NB0_256.out NB0_263.out) hg (IsS67.own_ne HI0.out HO_7.out (by decide))); have n6_ := Aside0.mk (below_weaken (zB4 HB.out (IsS67.ge HI0.out) GE255.out GE256.out GE263.out) HL.out hb); have n7_ := Aside0.mk (KeepBut.trans (zK3 HK.out GW255.out GW256.out GW263.out) (KeepBut.of_grown hg g) (Kd.R_base2 HO_7.out)); have n8_ := Aside0.mk (ho); clear HO_264000; clear HO_264001; clear BK255; clear BK256; clear BK263; clear HI0; clear HB; clear HK; clear HO_7; have HO_264000 := n0_; have HO_264001 := n1_; have BK255 := n2_; have BK256 := n3_; have BK263 := n4_; have HI0 := n5_; have HB := n6_; have HK := n7_; have HO284 := n8_; clear n0_ n1_ n2_ n3_ n4_ n5_ n6_ n7_ n8_; clear ho hb hg hat))
           go_roundg k2
           case measure => have := HK1.out; have := HK2.out; omega
           case rel => exact ⟨(y282), (t281), (wrap64 (x9_2 + 1)), (t279), (t280), zs, zs, H', ⟨by have := HK1.out; have := HK2.out; omega⟩, ⟨zR HO284.out⟩, ⟨zR (Kd.R_mono HO_264000.out (fun _ hk => hk.2))⟩, ⟨zS (Kd.S_mono HO_264001.out (fun _ hk => ⟨hk.2, hk.1⟩))⟩, ⟨zH BK255.out⟩, ⟨zH BK256.out⟩, ⟨zH BK263.out⟩, ⟨zI673 HI0.out NB0_255.out NB0_256.out NB0_263.out⟩, ⟨zK3 HK.out GW255.out GW256.out GW263.out⟩, ⟨zB4 HB.out (IsS67.ge HI0.out) GE255.out GE256.out GE263.out⟩⟩
          ·rw [if_neg c36] at H
           exact absurd H (by simp)
         ·rw [if_neg c29] at H
          have c29b0 : decide (x9_2 < (rd l1_0 x6_1)) = false := decide_eq_false c29
          clear c29
          by_cases c49 : x264001_1.length < 5864062014805
          ·rw [if_pos c49] at H
           have LMc49 := Aside0.mk c49
           clear c49
           obtain ⟨y269, hy269⟩ : ∃ y_ : List (List Int), y_ = (x264001_1 ++ [x7_2]) := ⟨_, rfl⟩
           replace H : (spec_l5Fill.l0 k2 (wrap64 (x6_1 + 1)) s0_0 x1001_2 x1002_2 l1_0 l1_1 y260 y269) = some (r1, r2, r3, r4) := zY hy269 H
           have Ny269 := Aside0.mk hy269
           clear hy269
           have H' := Aside0.mk H
           clear H
           have hnb50 := NB255_256.out
           have hnc50 := NB256_255.out
           have hnb51 := NB255_263.out
           have hnc51 := NB263_255.out
           have hnb52 := NB255_0.out
           have hnc52 := NB0_255.out
           have hcz53_0 : wr.cell? ⟨gb255, 0, none⟩ = some (.slice A1_0 l1_0.length c1_0) := (blk_cell BK255.out 0).trans rfl
           have hcz53_1 : wr.cell? ⟨gb255, 1, none⟩ = some (.slice A1_1 l1_1.length c1_1) := (blk_cell BK255.out 1).trans rfl
           have hfz53_0 := blk_frozen BK255.out 0
           have hfz53_1 := blk_frozen BK255.out 1
           have p268 : 0 ≤ (x6_1 : Int) := zd
           have q268 : x6_1 < (l1_0.length : Int) := zd
           obtain ⟨ad268, e268, hx268_0⟩ := Kd.at_int HR1_0.out x6_1 p268 q268
           cases e268
           replace hx268_0 := keep_cell HK.out hx268_0 (by first | (rw [add_block]; exact hf1_0 _ rfl (by omega)) | exact hf1_0 _ rfl (by omega) | exact hf1_0 ad268 rfl (by omega))
           replace p268 := eq_true p268
           replace q268 := eq_true q268
           have hnb54 := NB263_256.out
           have hnc54 := NB256_263.out
           have hnb55 := NB263_0.out
           have hnc55 := NB0_263.out
           have hcz56_0 : wr.cell? ⟨gb263, 0, none⟩ = some (.slice Ao12 y260.length co12) := (blk_cell BK263.out 0).trans rfl
           have hcz56_1 : wr.cell? ⟨gb263, 1, none⟩ = some (u264001) := (blk_cell BK263.out 1).trans rfl
           have hfz56_0 := blk_frozen BK263.out 0
           have hfz56_1 := blk_frozen BK263.out 1
           obtain ⟨Ao58, co58, eo58⟩ := Kd.R_slice HO_7.out
           subst eo58
           go_wp2_with (first | ((with_reducible refine gate_builtin (b := .append) (xs := #[.tmp 58, .tmp 60]) rfl ?_); at_builtin; refine Kd.S_append (Kd.slice 3 (Kd.int .i64)) w.heap.size rfl (.tmp 58) (.tmp 60) 27 24 (.slice none 0 0) 24 rfl Tryz.underlying27 info24 rfl (by decide) (by omega) u264001 x264001_1 x7_2 [.slice Ao58 x7_2.length co58] (fun k_ => some k_ ≠ (.slice Ao12 y260.length co12 : Value).ownBlock) (fun k_ => some k_ = (.slice Ao58 x7_2.length co58 : Value).ownBlock) rfl rfl ?aP (fun k_ hk_ => ((Kd.R_mono (ok' := fun k_ => ((fun k_ => some k_ ≠ (.slice Ao12 y260.length co12 : Value).ownBlock)) k_ ∧ some k_ ≠ (u264001 : Value).ownBlock) (Kd.R_apart' (HO_7.out) (Kd.S_typed HO_264001.out) (by decide)) (fun k_ hk => ⟨hk.1, hk.2⟩))).1 k_ hk_.symm) ?aF ?aO (Below.refl _ _) ?aS ?aL ?_; (case aP => exact Kd.M_row (Kd.R_mono (Kd.R_tight rfl (Kd.R_mono (ok' := fun k_ => ((fun k_ => some k_ ≠ (.slice Ao12 y260.length co12 : Value).ownBlock)) k_ ∧ some k_ ≠ (u264001 : Value).ownBlock) (Kd.R_apart' (HO_7.out) (Kd.S_typed HO_264001.out) (by decide)) (fun k_ hk => ⟨hk.1, hk.2⟩))) (fun _ h_ => h_))); (case aF => exact (fun k_ hk => Kd.fresh' (Kd.R_lt (zR HO_264000.out)) k_ hk)); (case aO => exact (zS (Kd.S_mono HO_264001.out (fun k_ hk => ⟨hk.2, fun e_ => hk.1 e_⟩)))); (case aS => exact (keep_size (w := w) (g := g) (row := none) (zK3 HK.out GW255.out GW256.out GW263.out))); (case aL => have := LMc49.out; omega); intro v270 w57 ho hb hg hat; rw [← Ny269.out] at ho; have n0_ := Aside0.mk (Kd.R_over' (zR HO_264000.out) (Kd.S_typed (zS HO_264001.out)) (by decide) hg); have n1_ := Aside0.mk (blk_grown (g := gb255) (o := .cells #[.slice (some ad268) l1_0.length c1_0, .slice A1_1 l1_1.length c1_1] 74 (0, 0)) (zH BK255.out) hg (Kd.S_ne HO_264001.out BK255.out (by decide))); have n2_ := Aside0.mk (blk_grown (g := gb256) (o := .cells #[.slice none 0 0, .slice none 0 0] 29 (0, 0)) (zH BK256.out) hg (Kd.S_ne HO_264001.out BK256.out (by decide))); have n3_ := Aside0.mk (blk_grown (g := gb263) (o := .cells #[.slice Ao12 y260.length co12, u264001] 29 (0, 0)) (zH BK263.out) hg (Kd.S_ne HO_264001.out BK263.out (by decide))); have n4_ := Aside0.mk (IsS67.grown (zI673 HI0.out NB0_255.out NB0_256.out NB0_263.out) hg (IsS67.own_neS HI0.out HO_264001.out (by decide))); have n5_ := Aside0.mk (below_weaken (zB4 HB.out (IsS67.ge HI0.out) GE255.out GE256.out GE263.out) HL.out hb); have n6_ := Aside0.mk (KeepBut.trans (zK3 HK.out GW255.out GW256.out GW263.out) (KeepBut.of_grown hg g) (Kd.S_base2 HO_264001.out)); have n7_ := Aside0.mk (ho); clear HO_264000; clear BK255; clear BK256; clear BK263; clear HI0; clear HB; clear HK; clear HO_264001; clear HO_7; have HO_264000 := n0_; have BK255 := n1_; have BK256 := n2_; have BK263 := n3_; have HI0 := n4_; have HB := n5_; have HK := n6_; have HO271 := n7_; clear n0_ n1_ n2_ n3_ n4_ n5_ n6_ n7_; clear ho hb hg hat; obtain ⟨Ao59, co59, eo59⟩ := Kd.S_slice HO271.out; subst eo59; have hcz60_0 : w57.cell? ⟨gb263, 0, none⟩ = some (.slice Ao12 y260.length co12) := (blk_cell BK263.out 0).trans rfl; have hcz60_1 : w57.cell? ⟨gb263, 1, none⟩ = some (u264001) := (blk_cell BK263.out 1).trans rfl; have hfz60_0 := blk_frozen BK263.out 0; have hfz60_1 := blk_frozen BK263.out 1))
           go_roundg k2
           case measure => have := HK1.out; have := HK2.out; omega
           case rel => exact ⟨(wrap64 (x6_1 + 1)), (x1001_2), (x1002_2), (y269), (.slice Ao59 y269.length co59), zs, H', ⟨by have := HK1.out; have := HK2.out; omega⟩, ⟨zR (Kd.R_mono (Kd.R_far (p := ⟨gb263, 1, none⟩) (Kd.R_types HO_264000.out BK263.out (by decide)) (fun _ hk => hk.2) (.slice Ao59 y269.length co59)) (fun _ hk => trivial))⟩, ⟨zS (Kd.S_mono (Kd.S_far (p := ⟨gb263, 1, none⟩) (Kd.S_types HO271.out BK263.out (by decide)) (fun _ hk => hk.2) (.slice Ao59 y269.length co59)) (fun _ hk => hk.1))⟩, ⟨by (with_reducible repeat (first | refine blk_drewN ?_ _ | refine blk_drew ?_ | refine blk_alloc ?_ _)); refine blk_far ?_ NB255_263.out _; (with_reducible repeat (first | refine blk_drewN ?_ _ | refine blk_drew ?_ | refine blk_alloc ?_ _)); exact BK255.out⟩, ⟨by (with_reducible repeat (first | refine blk_drewN ?_ _ | refine blk_drew ?_ | refine blk_alloc ?_ _)); refine blk_far ?_ NB256_263.out _; (with_reducible repeat (first | refine blk_drewN ?_ _ | refine blk_drew ?_ | refine blk_alloc ?_ _)); exact BK256.out⟩, ⟨by (with_reducible repeat (first | refine blk_drewN ?_ _ | refine blk_drew ?_ | refine blk_alloc ?_ _)); refine blk_put (cs := #[.slice Ao12 y260.length co12, u264001]) ?_ 1 _ rfl; (with_reducible repeat (first | refine blk_drewN ?_ _ | refine blk_drew ?_ | refine blk_alloc ?_ _)); exact BK263.out⟩, ⟨zI673 HI0.out NB0_255.out NB0_256.out NB0_263.out⟩, ⟨zK3 HK.out GW255.out GW256.out GW263.out⟩, ⟨zB4 HB.out (IsS67.ge HI0.out) GE255.out GE256.out GE263.out⟩⟩
          ·rw [if_neg c49] at H
           exact absurd H (by simp)
        ·rw [if_neg c28] at H
         exact absurd H (by simp)
       ·rw [if_neg c27] at H
        exact absurd H (by simp)
    ·rw [if_neg c18] at H
     have c18b0 : decide (x6_1 < (l1_0.length : Int)) = false := decide_eq_false c18
     clear c18
     simp only [Option.some.injEq, Prod.mk.injEq] at H
     obtain ⟨rfl, rfl, rfl, rfl⟩ := H
     have hnb61 := NB255_256.out
     have hnc61 := NB256_255.out
     have hnb62 := NB255_263.out
     have hnc62 := NB263_255.out
     have hnb63 := NB255_0.out
     have hnc63 := NB0_255.out
     have hcz64_0 : wr.cell? ⟨gb255, 0, none⟩ = some (.slice A1_0 l1_0.length c1_0) := (blk_cell BK255.out 0).trans rfl
     have hcz64_1 : wr.cell? ⟨gb255, 1, none⟩ = some (.slice A1_1 l1_1.length c1_1) := (blk_cell BK255.out 1).trans rfl
     have hfz64_0 := blk_frozen BK255.out 0
     have hfz64_1 := blk_frozen BK255.out 1
     have hnb65 := NB263_256.out
     have hnc65 := NB256_263.out
     have hnb66 := NB263_0.out
     have hnc66 := NB0_263.out
     have hcz67_0 : wr.cell? ⟨gb263, 0, none⟩ = some (.slice Ao12 y260.length co12) := (blk_cell BK263.out 0).trans rfl
     have hcz67_1 : wr.cell? ⟨gb263, 1, none⟩ = some (u264001) := (blk_cell BK263.out 1).trans rfl
     have hfz67_0 := blk_frozen BK263.out 0
     have hfz67_1 := blk_frozen BK263.out 1
     have hnb68 := NB256_0.out
     have hnc68 := NB0_256.out
     have hcz69_0 : wr.cell? ⟨gb256, 0, none⟩ = some (.slice none 0 0) := (blk_cell BK256.out 0).trans rfl
     have hcz69_1 : wr.cell? ⟨gb256, 1, none⟩ = some (.slice none 0 0) := (blk_cell BK256.out 1).trans rfl
     have hfz69_0 := blk_frozen BK256.out 0
     have hfz69_1 := blk_frozen BK256.out 1
     obtain ⟨Ao70, co70, eo70⟩ := Kd.S_slice HO_264001.out
     subst eo70
     go_wp2
     refine bodyPost_ret (results_cell_row rfl _ _ gb256 29 #[.slice Ao12 y260.length co12, .slice Ao70 x264001_1.length co70] (0, 0) _ rfl (by (with_reducible repeat (first | refine blk_drewN ?_ _ | refine blk_drew ?_ | refine blk_alloc ?_ _)); refine blk_put (cs := #[.slice Ao12 y260.length co12, .slice none 0 0]) ?_ 1 _ rfl; (with_reducible repeat (first | refine blk_drewN ?_ _ | refine blk_drew ?_ | refine blk_alloc ?_ _)); refine blk_put (cs := #[.slice none 0 0, .slice none 0 0]) ?_ 0 _ rfl; (with_reducible repeat (first | refine blk_drewN ?_ _ | refine blk_drew ?_ | refine blk_alloc ?_ _)); exact BK256.out) Tryz.underlying29 rfl (by kernel_rfl)) rfl ?_
     exact ⟨_, _, zr, zR (Kd.R_mono (Kd.R_far (p := ⟨gb256, 1, none⟩) (Kd.R_far (p := ⟨gb256, 0, none⟩) (Kd.R_types HO_264000.out BK256.out (by decide)) (fun _ hk => hk.2) (.slice Ao12 y260.length co12)) (fun _ hk => hk.2) (.slice Ao70 x264001_1.length co70)) (fun _ hk => trivial)), zS (Kd.S_mono (Kd.S_far (p := ⟨gb256, 1, none⟩) (Kd.S_far (p := ⟨gb256, 0, none⟩) (Kd.S_types HO_264001.out BK256.out (by decide)) (fun _ hk => hk.2) (.slice Ao12 y260.length co12)) (fun _ hk => hk.2) (.slice Ao70 x264001_1.length co70)) (fun _ hk => hk.1)), zI673 HI0.out NB0_255.out NB0_256.out NB0_263.out, zB4 HB.out (IsS67.ge HI0.out) GE255.out GE256.out GE263.out, zK3 HK.out GW255.out GW256.out GW263.out⟩
 ·rw [if_neg c3] at H
  exact absurd H (by simp)

end Go.Proofs.YtpandocpclecgaaGreatDoor.F
