/- For each Go function named below: the plain Lean function that it computes, and that its call returns just that; conditions: those that each theorem names. -/
import Derived.Test.YtfijlemaiiobaaaF0
import Derived.Test.YtfijlemaiiobaaaF1
namespace Go.Proofs.Ytfijlemaiiobaaa.F
open Go.RowKit Go.Proofs.YtfijlemaiiobaaaW.PrintWords Go.Proofs.YtfijlemaiiobaaaW.PrintLast Go.Proofs.YtfijlemaiiobaaaW.PrintMore
attribute [local go_sem] max2_int min2_int max_two min_two max_three min_three max_four min_four   -- for this text's walks alone
set_option linter.unusedVariables false
set_option linter.unusedSimpArgs false

/-! ### spec_l9Insert: function 83 -/
mutual
def spec_l9Insert.l0 : Nat → Int → Int → List Int → List (List Int) → Option (List Int × (List (List Int)) × Int)
 | 0, _, _, _, _ => none
 | k + 1, x1, x7, x138000, x138001 => if x7 < (x138001.length : Int) then (spec_l9Insert.l1 k x1 x7 0 x138000 x138001) else (if x138001.length < 5864062014805 then ((some (x138001 ++ [(([x1] : List Int))] : List (List Int))).bind fun y141 => (some (x138000, y141, wrap64 ((y141.length : Int) - 1)))) else (none))
def spec_l9Insert.l1 : Nat → Int → Int → Int → List Int → List (List Int) → Option (List Int × (List (List Int)) × Int)
 | 0, _, _, _, _, _ => none
 | k + 1, x1, x7, x8, x138000, x138001 => if 0 ≤ x7 then (if x7 < (x138001.length : Int) then (if x8 < ((rd_L1 x138001 x7).length : Int) then (if 0 ≤ x8 then (if (rd (rd_L1 x138001 x7) x8) ≤ x1 then (spec_l9Insert.l1 k x1 x7 (wrap64 (x8 + 1)) x138000 x138001) else (if x8 = ((rd_L1 x138001 x7).length : Int) then (if (rd_L1 x138001 x7).length < 17592186044416 then (some (x138000, (x138001.set (x7 : Int).toNat ((rd_L1 x138001 x7) ++ [x1])), x7)) else (none)) else (spec_l9Insert.l0 k (rd (rd_L1 x138001 x7) x8) (wrap64 (x7 + 1)) x138000 (x138001.set (x7 : Int).toNat ((rd_L1 x138001 x7).set (x8 : Int).toNat x1))))) else (none)) else (if x8 = ((rd_L1 x138001 x7).length : Int) then (if (rd_L1 x138001 x7).length < 17592186044416 then (some (x138000, (x138001.set (x7 : Int).toNat ((rd_L1 x138001 x7) ++ [x1])), x7)) else (none)) else (if 0 ≤ x8 then (none) else (none)))) else (none)) else (none)
end
def spec_l9Insert.f (k : Nat) (l0_0 : List Int) (l0_1 : List (List Int)) (a1 : Int) : Option (List Int × (List (List Int)) × Int) := (spec_l5Copy.f k l0_0 l0_1).bind fun bt131 => (spec_l9Insert.l0 k a1 0 bt131.1 bt131.2)
theorem spec_l9Insert.mono_l : ∀ k, (∀ y0 y1 y2 y3, LeO (spec_l9Insert.l0 k y0 y1 y2 y3) (spec_l9Insert.l0 (k + 1) y0 y1 y2 y3)) ∧ (∀ y0 y1 y2 y3 y4, LeO (spec_l9Insert.l1 k y0 y1 y2 y3 y4) (spec_l9Insert.l1 (k + 1) y0 y1 y2 y3 y4))
 | 0 => ⟨fun _ _ _ _ r h => by simp [spec_l9Insert.l0] at h, fun _ _ _ _ _ r h => by simp [spec_l9Insert.l1] at h⟩
 | k + 1 => by
  obtain ⟨ih0, ih1⟩ := spec_l9Insert.mono_l k
  refine ⟨?_, ?_⟩
  ·intro y0 y1 y2 y3
   unfold spec_l9Insert.l0
   repeat' first
   | (with_reducible exact ih0 _ _ _ _)
   | (with_reducible exact ih1 _ _ _ _ _)
   | (with_reducible exact spec_l5Copy.mono _ _ _)
   | (with_reducible exact LeO.refl _)
   | (with_reducible exact LeO.none _)
   | (with_reducible refine LeO.ite ?_ ?_)
   | (with_reducible refine LeO.bind ?_ (fun _ => ?_))
   | exact ih0 _ _ _ _
   | exact ih1 _ _ _ _ _
   | exact spec_l5Copy.mono _ _ _
   | exact LeO.none _
   | refine LeO.ite ?_ ?_
   | refine LeO.bind ?_ (fun _ => ?_)
  ·intro y0 y1 y2 y3 y4
   unfold spec_l9Insert.l1
   repeat' first
   | (with_reducible exact ih0 _ _ _ _)
   | (with_reducible exact ih1 _ _ _ _ _)
   | (with_reducible exact spec_l5Copy.mono _ _ _)
   | (with_reducible exact LeO.refl _)
   | (with_reducible exact LeO.none _)
   | (with_reducible refine LeO.ite ?_ ?_)
   | (with_reducible refine LeO.bind ?_ (fun _ => ?_))
   | exact ih0 _ _ _ _
   | exact ih1 _ _ _ _ _
   | exact spec_l5Copy.mono _ _ _
   | exact LeO.none _
   | refine LeO.ite ?_ ?_
   | refine LeO.bind ?_ (fun _ => ?_)
theorem spec_l9Insert.mono : ∀ a0 a1 a2 k, LeO (spec_l9Insert.f k a0 a1 a2) (spec_l9Insert.f (k + 1) a0 a1 a2) := by
 intro a0 a1 a2 k
 obtain ⟨ih0, ih1⟩ := spec_l9Insert.mono_l k
 unfold spec_l9Insert.f
 repeat' first
   | (with_reducible exact ih0 _ _ _ _)
   | (with_reducible exact ih1 _ _ _ _ _)
   | (with_reducible exact spec_l5Copy.mono _ _ _)
   | (with_reducible exact LeO.refl _)
   | (with_reducible exact LeO.none _)
   | (with_reducible refine LeO.ite ?_ ?_)
   | (with_reducible refine LeO.bind ?_ (fun _ => ?_))
   | exact ih0 _ _ _ _
   | exact ih1 _ _ _ _ _
   | exact spec_l5Copy.mono _ _ _
   | exact LeO.none _
   | refine LeO.ite ?_ ?_
   | refine LeO.bind ?_ (fun _ => ?_)
def spec_l9Insert.T9 : Bool × List (List Nat × List Nat) := (true, [([], []), ([0], [0]), ([], []), ([], []), ([3], [3]), ([], []), ([4, 5], [4, 5]), ([6], [6]), ([], []), ([8], [8]), ([7, 9], [7, 9]), ([1, 2, 0, 1, 2, 3, 4, 5, 6, 7, 8, 9, 10], [1, 2]), ([11, 10, 10, 0, 1, 2, 3, 4, 5, 6, 7, 8, 9, 10], [10, 11])])
def spec_l9Insert.B9 : List Nat := [0, 1, 0, 0, 8, 0, 56, 120, 0, 256, 1016, 2047, 4095]
theorem spec_l9Insert.tab9 : rtab .any (opsOf Try.f83 9) = spec_l9Insert.T9 := by kernel_rfl
theorem spec_l9Insert.bits9 : waitsOk spec_l9Insert.T9.2 spec_l9Insert.B9 = true := by kernel_rfl
set_option maxHeartbeats 8000000 in
set_option maxRecDepth 100000 in
theorem spec_l9Insert.calls (k : Nat) (A0_0 : Option Addr) (c0_0 : Nat) (l0_0 : List Int) (A0_1 : Option Addr) (c0_1 : Nat) (l0_1 : List (List Int)) (a1 : Int) (r1 : List Int) (r2 : List (List Int)) (r3 : Int) (w : World) (hr0_0 : Kd.C (Kd.int .i64) w A0_0 l0_0.length l0_0) (hc0_0 : l0_0.length ≤ c0_0) (hr0_1 : Kd.C (Kd.slice 3 (Kd.int .i64)) w A0_1 l0_1.length l0_1) (hc0_1 : l0_1.length ≤ c0_1) (h : spec_l9Insert.f k l0_0 l0_1 a1 = some (r1, r2, r3)) :
  Calls Try.prog 83 #[.agg #[.slice A0_0 l0_0.length c0_0, .slice A0_1 l0_1.length c0_1], .int .i64 a1] w fun e w' => ∃ v0_ v1_ : Value, e = .returned (.tuple #[.agg #[v0_, v1_], .int .i64 r3]) ∧ Kd.R (Kd.int .i64) 3 w' w.heap.size (fun _ => True) v0_ r1 ∧ Kd.S (Kd.slice 3 (Kd.int .i64)) 24 w' w.heap.size (fun k_ => some k_ ≠ (v0_ : Value).ownBlock) v1_ r2 ∧ Below w.heap.size w w' := by
 have hu34 := Try.underlying34
 have HR0_0 := Aside0.mk hr0_0
 have HC0_0 := Aside0.mk hc0_0
 clear hr0_0 hc0_0
 have HR0_1 := Aside0.mk hr0_1
 have HC0_1 := Aside0.mk hc0_1
 clear hr0_1 hc0_1
 have HB := Aside0.mk (Below.refl w.heap.size w)
 have H : ((spec_l5Copy.f k l0_0 l0_1).bind fun bt131 => (spec_l9Insert.l0 k a1 0 bt131.1 bt131.2)) = some (r1, r2, r3) := h
 clear h
 replace H := Option.bind_eq_some_iff.mp H
 obtain ⟨⟨t131, t134⟩, A30, H⟩ := H
 replace H : (spec_l9Insert.l0 k a1 0 t131 t134) = some (r1, r2, r3) := H
 have A3 := Aside0.mk A30
 clear A30
 have H' := Aside0.mk H
 clear H
 go_enter Try.func83, Try.ntmps83
 go_wp2_with (first | ((with_reducible refine gate_dst (N := 2) rfl ?_); refine box_event ?hg (N := 2) ?hd (cs := #[.slice A0_0 l0_0.length c0_0, .slice A0_1 l0_1.length c0_1]) (t := 34) ?hr ?_; (case hd => rfl); (case hg => rfl); (case hr => first | (go_simp; done) | (go_simp; rfl)); intro gb129 hg w4 hbox hb; have n0_ := Aside0.mk (below_step (by repeat (first | (with_reducible first | exact HB.out | apply below_alloc | apply pw_below_drewN | apply below_drew1) | exact HB.out)) hb); have n1_ := Aside0.mk (hbox); have n2_ := Aside0.mk ((by rw [hg]; exact (below_size (by repeat (first | (with_reducible first | exact HB.out | apply below_alloc | apply pw_below_drewN | apply below_drew1) | exact HB.out))) : w.heap.size ≤ gb129)); have n3_ := Aside0.mk ((by rw [hg]; exact (below_size (by repeat (first | (with_reducible first | exact HB.out | apply below_alloc | apply pw_below_drewN | apply below_drew1) | exact HB.out))) : w.heap.size ≤ gb129)); clear HB; have HB := n0_; have BK129 := n1_; have GW129 := n2_; have GE129 := n3_; clear n0_ n1_ n2_ n3_; clear hb hbox hg) | ((with_reducible refine gate_dst (N := 4) rfl ?_); refine box_event ?hg (N := 4) ?hd (cs := #[.slice none 0 0, .slice none 0 0]) (t := 34) ?hr ?_; (case hd => rfl); (case hg => rfl); (case hr => first | (go_simp; done) | (go_simp; rfl)); intro gb130 hg w5 hbox hb; have n0_ := Aside0.mk (blk_below (g := gb129) (o := .cells #[.slice A0_0 l0_0.length c0_0, .slice A0_1 l0_1.length c0_1] 34 (0, 0)) (by (with_reducible repeat (first | refine blk_drewN ?_ _ | refine blk_drew ?_ | refine blk_alloc ?_ _)); exact BK129.out) hb); have n1_ := Aside0.mk (below_step (by repeat (first | (with_reducible first | exact HB.out | apply below_alloc | apply pw_below_drewN | apply below_drew1 | refine below_set ?_ GE129.out) | exact HB.out)) hb); have n2_ := Aside0.mk (hbox); have n3_ := Aside0.mk ((by rw [hg]; exact (below_size (by repeat (first | (with_reducible first | exact HB.out | apply below_alloc | apply pw_below_drewN | apply below_drew1 | refine below_set ?_ GE129.out) | exact HB.out))) : w.heap.size ≤ gb130)); have n4_ := Aside0.mk ((by rw [hg]; exact (below_size (by repeat (first | (with_reducible first | exact HB.out | apply below_alloc | apply pw_below_drewN | apply below_drew1 | refine below_set ?_ GE129.out) | exact HB.out))) : w.heap.size ≤ gb130)); have n5_ := Aside0.mk ((by rw [hg]; exact Nat.ne_of_lt (blk_lt (g := gb129) (o := .cells #[.slice A0_0 l0_0.length c0_0, .slice A0_1 l0_1.length c0_1] 34 (0, 0)) (by (with_reducible repeat (first | refine blk_drewN ?_ _ | refine blk_drew ?_ | refine blk_alloc ?_ _)); exact BK129.out)) : gb129 ≠ gb130)); have n6_ := Aside0.mk ((by rw [hg]; exact Nat.ne_of_gt (blk_lt (g := gb129) (o := .cells #[.slice A0_0 l0_0.length c0_0, .slice A0_1 l0_1.length c0_1] 34 (0, 0)) (by (with_reducible repeat (first | refine blk_drewN ?_ _ | refine blk_drew ?_ | refine blk_alloc ?_ _)); exact BK129.out)) : gb130 ≠ gb129)); clear BK129; clear HB; have BK129 := n0_; have HB := n1_; have BK130 := n2_; have GW130 := n3_; have GE130 := n4_; have NB129_130 := n5_; have NB130_129 := n6_; clear n0_ n1_ n2_ n3_ n4_ n5_ n6_; clear hb hbox hg; have hnb6 := NB129_130.out; have hnc6 := NB130_129.out; have hcz7_0 : w5.cell? ⟨gb129, 0, none⟩ = some (.slice A0_0 l0_0.length c0_0) := (blk_cell BK129.out 0).trans rfl; have hcz7_1 : w5.cell? ⟨gb129, 1, none⟩ = some (.slice A0_1 l0_1.length c0_1) := (blk_cell BK129.out 1).trans rfl; have hfz7_0 := blk_frozen BK129.out 0; have hfz7_1 := blk_frozen BK129.out 1) | ((with_reducible refine gate_callee (f := 85) rfl ?_); refine goesL_ (some 11) rfl rfl Try.func85 (by kernel_rfl) rfl #[.agg #[.slice A0_0 l0_0.length c0_0, .slice A0_1 l0_1.length c0_1]] rfl (by (try simp only [List.map_toArray, List.map_cons, List.map_nil]); first | done | rfl | (simp only [List.length_drop, List.length_take]; rfl)) ?_; (with_reducible refine (spec_l5Copy.calls k _ _ l0_0 _ _ l0_1 t131 t134 _ ?side1 ?side2 ?side3 ?side4 A3.out).mono ?_); (case side1 => repeat (first | exact (Kd.C_below HR0_0.out HB.out) | (with_reducible refine Kd.C_alloc ?_ _) | (with_reducible refine Kd.C_drewN ?_ _) | (with_reducible refine Kd.C_drew ?_))); (case side2 => exact HC0_0.out); (case side3 => repeat (first | exact (Kd.C_below HR0_1.out HB.out) | (with_reducible refine Kd.C_alloc ?_ _) | (with_reducible refine Kd.C_drewN ?_ _) | (with_reducible refine Kd.C_drew ?_))); (case side4 => exact HC0_1.out); rintro e w8 ⟨v132, v135, rfl, ho0, ho1, hb⟩; refine ⟨_, rfl, ?_⟩; have n0_ := Aside0.mk (Kd.R_lower ho0 (below_size (by repeat (first | (with_reducible first | exact HB.out | apply below_alloc | apply pw_below_drewN | apply below_drew1 | refine below_set ?_ GE129.out | refine below_set ?_ GE130.out) | exact HB.out)))); have n1_ := Aside0.mk (Kd.S_lower ho1 (below_size (by repeat (first | (with_reducible first | exact HB.out | apply below_alloc | apply pw_below_drewN | apply below_drew1 | refine below_set ?_ GE129.out | refine below_set ?_ GE130.out) | exact HB.out)))); have n2_ := Aside0.mk (blk_below (g := gb129) (o := .cells #[.slice A0_0 l0_0.length c0_0, .slice A0_1 l0_1.length c0_1] 34 (0, 0)) (by (with_reducible repeat (first | refine blk_drewN ?_ _ | refine blk_drew ?_ | refine blk_alloc ?_ _)); exact BK129.out) hb); have n3_ := Aside0.mk (blk_below (g := gb130) (o := .cells #[.slice none 0 0, .slice none 0 0] 34 (0, 0)) (by (with_reducible repeat (first | refine blk_drewN ?_ _ | refine blk_drew ?_ | refine blk_alloc ?_ _)); exact BK130.out) hb); have n4_ := Aside0.mk (below_step (by repeat (first | (with_reducible first | exact HB.out | apply below_alloc | apply pw_below_drewN | apply below_drew1 | refine below_set ?_ GE129.out | refine below_set ?_ GE130.out) | exact HB.out)) hb); clear BK129; clear BK130; clear HB; have HO133 := n0_; have HO136 := n1_; have BK129 := n2_; have BK130 := n3_; have HB := n4_; clear n0_ n1_ n2_ n3_ n4_; (try clear hb); (try clear hb2); (try clear hk); (try clear hi); (try clear ho0); (try clear ho1)) | ((with_reducible refine gate_dst (N := 6) rfl ?_); refine box_event ?hg (N := 6) ?hd (cs := #[.slice none 0 0, .slice none 0 0]) (t := 34) ?hr ?_; (case hd => rfl); (case hg => rfl); (case hr => first | (go_simp; done) | (go_simp; rfl)); intro gb137 hg w9 hbox hb; have n0_ := Aside0.mk (Kd.R_below (by (with_reducible repeat (first | apply Kd.R_alloc | apply Kd.R_drewN | apply Kd.R_drew)); exact HO133.out) hb); have n1_ := Aside0.mk (Kd.S_below (by (with_reducible repeat (first | apply Kd.S_alloc | apply Kd.S_drewN | apply Kd.S_drew)); exact HO136.out) hb); have n2_ := Aside0.mk (blk_below (g := gb129) (o := .cells #[.slice A0_0 l0_0.length c0_0, .slice A0_1 l0_1.length c0_1] 34 (0, 0)) (by (with_reducible repeat (first | refine blk_drewN ?_ _ | refine blk_drew ?_ | refine blk_alloc ?_ _)); exact BK129.out) hb); have n3_ := Aside0.mk (blk_below (g := gb130) (o := .cells #[.slice none 0 0, .slice none 0 0] 34 (0, 0)) (by (with_reducible repeat (first | refine blk_drewN ?_ _ | refine blk_drew ?_ | refine blk_alloc ?_ _)); exact BK130.out) hb); have n4_ := Aside0.mk (below_step (by repeat (first | (with_reducible first | exact HB.out | apply below_alloc | apply pw_below_drewN | apply below_drew1 | refine below_set ?_ GE129.out | refine below_set ?_ GE130.out) | exact HB.out)) hb); have n5_ := Aside0.mk (hbox); have n6_ := Aside0.mk ((by rw [hg]; exact (below_size (by repeat (first | (with_reducible first | exact HB.out | apply below_alloc | apply pw_below_drewN | apply below_drew1 | refine below_set ?_ GE129.out | refine below_set ?_ GE130.out) | exact HB.out))) : w.heap.size ≤ gb137)); have n7_ := Aside0.mk ((by rw [hg]; exact (below_size (by repeat (first | (with_reducible first | exact HB.out | apply below_alloc | apply pw_below_drewN | apply below_drew1 | refine below_set ?_ GE129.out | refine below_set ?_ GE130.out) | exact HB.out))) : w.heap.size ≤ gb137)); have n8_ := Aside0.mk ((by rw [hg]; exact Nat.ne_of_lt (blk_lt (g := gb129) (o := .cells #[.slice A0_0 l0_0.length c0_0, .slice A0_1 l0_1.length c0_1] 34 (0, 0)) (by (with_reducible repeat (first | refine blk_drewN ?_ _ | refine blk_drew ?_ | refine blk_alloc ?_ _)); exact BK129.out)) : gb129 ≠ gb137)); have n9_ := Aside0.mk ((by rw [hg]; exact Nat.ne_of_gt (blk_lt (g := gb129) (o := .cells #[.slice A0_0 l0_0.length c0_0, .slice A0_1 l0_1.length c0_1] 34 (0, 0)) (by (with_reducible repeat (first | refine blk_drewN ?_ _ | refine blk_drew ?_ | refine blk_alloc ?_ _)); exact BK129.out)) : gb137 ≠ gb129)); have n10_ := Aside0.mk ((by rw [hg]; exact Nat.ne_of_lt (blk_lt (g := gb130) (o := .cells #[.slice none 0 0, .slice none 0 0] 34 (0, 0)) (by (with_reducible repeat (first | refine blk_drewN ?_ _ | refine blk_drew ?_ | refine blk_alloc ?_ _)); exact BK130.out)) : gb130 ≠ gb137)); have n11_ := Aside0.mk ((by rw [hg]; exact Nat.ne_of_gt (blk_lt (g := gb130) (o := .cells #[.slice none 0 0, .slice none 0 0] 34 (0, 0)) (by (with_reducible repeat (first | refine blk_drewN ?_ _ | refine blk_drew ?_ | refine blk_alloc ?_ _)); exact BK130.out)) : gb137 ≠ gb130)); clear HO133; clear HO136; clear BK129; clear BK130; clear HB; have HO133 := n0_; have HO136 := n1_; have BK129 := n2_; have BK130 := n3_; have HB := n4_; have BK137 := n5_; have GW137 := n6_; have GE137 := n7_; have NB129_137 := n8_; have NB137_129 := n9_; have NB130_137 := n10_; have NB137_130 := n11_; clear n0_ n1_ n2_ n3_ n4_ n5_ n6_ n7_ n8_ n9_ n10_ n11_; clear hb hbox hg; obtain ⟨Ao10, co10, eo10⟩ := Kd.R_slice HO133.out; subst eo10; have hnb11 := NB137_129.out; have hnc11 := NB129_137.out; have hnb12 := NB137_130.out; have hnc12 := NB130_137.out; have hcz13_0 : w9.cell? ⟨gb137, 0, none⟩ = some (.slice none 0 0) := (blk_cell BK137.out 0).trans rfl; have hcz13_1 : w9.cell? ⟨gb137, 1, none⟩ = some (.slice none 0 0) := (blk_cell BK137.out 1).trans rfl; have hfz13_0 := blk_frozen BK137.out 0; have hfz13_1 := blk_frozen BK137.out 1; obtain ⟨Ao14, co14, eo14⟩ := Kd.S_slice HO136.out; subst eo14))
 go_loopg [1, 7] k (fun kq v1 v7 w' => ∃ (x1_1 : Int) (x7_1 : Int) (x138000_1 : List Int) (x138001_1 : List (List Int)) (u138000 : Value) (u138001 : Value), v1 = .int .i64 x1_1 ∧ v7 = .int .i64 x7_1 ∧ Aside0 (spec_l9Insert.l0 kq x1_1 x7_1 x138000_1 x138001_1 = some (r1, r2, r3)) ∧ Aside0 (kq ≤ k) ∧ Aside0 (Kd.R (Kd.int .i64) 3 w' w.heap.size (fun _ => True) u138000 x138000_1) ∧ Aside0 (Kd.S (Kd.slice 3 (Kd.int .i64)) 24 w' w.heap.size (fun k_ => some k_ ≠ (u138000 : Value).ownBlock) u138001 x138001_1) ∧ Aside0 (w'.heap[gb129]? = some (.cells #[(.slice A0_0 l0_0.length c0_0), (.slice A0_1 l0_1.length c0_1)] 34 (0, 0))) ∧ Aside0 (w'.heap[gb130]? = some (.cells #[(.slice none 0 0), (.slice none 0 0)] 34 (0, 0))) ∧ Aside0 (w'.heap[gb137]? = some (.cells #[u138000, u138001] 34 (0, 0))) ∧ Aside0 (Below w.heap.size w w'))
 case atStart => exact ⟨(a1), (0), (t131), (t134), (.slice Ao10 t131.length co10), (.slice Ao14 t134.length co14), (by first | rfl | (simp; done) | (simp [*]; done)), (by first | rfl | (simp; done) | (simp [*]; done)), H', ⟨Nat.le_refl _⟩, ⟨by (with_reducible repeat (first | apply Kd.R_alloc | apply Kd.R_drewN | apply Kd.R_drew)); exact Kd.R_mono (Kd.R_far (p := ⟨gb137, 1, none⟩) (Kd.R_far (p := ⟨gb137, 0, none⟩) (Kd.R_types HO133.out BK137.out (by decide)) (fun _ hk => hk.2) (.slice Ao10 t131.length co10)) (fun _ hk => hk.2) (.slice Ao14 t134.length co14)) (fun _ hk => trivial)⟩, ⟨by (with_reducible repeat (first | apply Kd.S_alloc | apply Kd.S_drewN | apply Kd.S_drew)); exact Kd.S_mono (Kd.S_far (p := ⟨gb137, 1, none⟩) (Kd.S_far (p := ⟨gb137, 0, none⟩) (Kd.S_types HO136.out BK137.out (by decide)) (fun _ hk => hk.2) (.slice Ao10 t131.length co10)) (fun _ hk => hk.2) (.slice Ao14 t134.length co14)) (fun _ hk => hk.1)⟩, ⟨by (with_reducible repeat (first | refine blk_drewN ?_ _ | refine blk_drew ?_ | refine blk_alloc ?_ _)); refine blk_far ?_ NB129_137.out _; (with_reducible repeat (first | refine blk_drewN ?_ _ | refine blk_drew ?_ | refine blk_alloc ?_ _)); refine blk_far ?_ NB129_137.out _; (with_reducible repeat (first | refine blk_drewN ?_ _ | refine blk_drew ?_ | refine blk_alloc ?_ _)); exact BK129.out⟩, ⟨by (with_reducible repeat (first | refine blk_drewN ?_ _ | refine blk_drew ?_ | refine blk_alloc ?_ _)); refine blk_far ?_ NB130_137.out _; (with_reducible repeat (first | refine blk_drewN ?_ _ | refine blk_drew ?_ | refine blk_alloc ?_ _)); refine blk_far ?_ NB130_137.out _; (with_reducible repeat (first | refine blk_drewN ?_ _ | refine blk_drew ?_ | refine blk_alloc ?_ _)); exact BK130.out⟩, ⟨by (with_reducible repeat (first | refine blk_drewN ?_ _ | refine blk_drew ?_ | refine blk_alloc ?_ _)); refine blk_put (cs := #[.slice Ao10 t131.length co10, .slice none 0 0]) ?_ 1 _ rfl; (with_reducible repeat (first | refine blk_drewN ?_ _ | refine blk_drew ?_ | refine blk_alloc ?_ _)); refine blk_put (cs := #[.slice none 0 0, .slice none 0 0]) ?_ 0 _ rfl; (with_reducible repeat (first | refine blk_drewN ?_ _ | refine blk_drew ?_ | refine blk_alloc ?_ _)); exact BK137.out⟩, ⟨by repeat (first | (with_reducible first | exact HB.out | apply below_alloc | apply pw_below_drewN | apply below_drew1 | refine below_set ?_ GE129.out | refine below_set ?_ GE130.out | refine below_set ?_ GE137.out) | exact HB.out)⟩⟩
 case round =>
  clear H'
  try clear c1
  try clear p2
  try clear c6
  try clear c8
  try clear c11
  try clear c12
  try clear hcz13_0
  try clear hcz13_1
  try clear hcz7_0
  try clear hcz7_1
  try clear hfz13_0
  try clear hfz13_1
  try clear hfz7_0
  try clear hfz7_1
  obtain ⟨x1_1, x7_1, x138000_1, x138001_1, u138000, u138001, rfl, rfl, HA, HK1, HO_138000, HO_138001, BK129, BK130, BK137, HB⟩ := hrel
  cases gk with
  | zero => exact absurd HA.out (by simp [spec_l9Insert.l0])
  | succ k1 =>
   have H := HA.out
   clear HA
   simp only [spec_l9Insert.l0] at H
   by_cases c15 : x7_1 < (x138001_1.length : Int)
   ·rw [if_pos c15] at H
    have c15b0 : decide (x7_1 < (x138001_1.length : Int)) = true := decide_eq_true c15
    clear c15
    have H' := Aside0.mk H
    clear H
    have hnb16 := NB137_129.out
    have hnc16 := NB129_137.out
    have hnb17 := NB137_130.out
    have hnc17 := NB130_137.out
    have hcz18_0 : wr.cell? ⟨gb137, 0, none⟩ = some (u138000) := (blk_cell BK137.out 0).trans rfl
    have hcz18_1 : wr.cell? ⟨gb137, 1, none⟩ = some (u138001) := (blk_cell BK137.out 1).trans rfl
    have hfz18_0 := blk_frozen BK137.out 0
    have hfz18_1 := blk_frozen BK137.out 1
    obtain ⟨Ao19, co19, eo19⟩ := Kd.S_slice HO_138001.out
    subst eo19
    go_wp2
    go_loopg [8] k1 (fun kq v8 w' => ∃ (x8_2 : Int), v8 = .int .i64 x8_2 ∧ Aside0 (spec_l9Insert.l1 kq x1_1 x7_1 x8_2 x138000_1 x138001_1 = some (r1, r2, r3)) ∧ Aside0 (kq ≤ k1) ∧ Aside0 (Kd.R (Kd.int .i64) 3 w' w.heap.size (fun _ => True) u138000 x138000_1) ∧ Aside0 (Kd.S (Kd.slice 3 (Kd.int .i64)) 24 w' w.heap.size (fun k_ => some k_ ≠ (u138000 : Value).ownBlock) (.slice Ao19 x138001_1.length co19) x138001_1) ∧ Aside0 (w'.heap[gb129]? = some (.cells #[(.slice A0_0 l0_0.length c0_0), (.slice A0_1 l0_1.length c0_1)] 34 (0, 0))) ∧ Aside0 (w'.heap[gb130]? = some (.cells #[(.slice none 0 0), (.slice none 0 0)] 34 (0, 0))) ∧ Aside0 (w'.heap[gb137]? = some (.cells #[u138000, (.slice Ao19 x138001_1.length co19)] 34 (0, 0))) ∧ Aside0 (Below w.heap.size w w'))
    case atStart => exact ⟨(0), (by first | rfl | (simp; done) | (simp [*]; done)), H', ⟨Nat.le_refl _⟩, ⟨by (with_reducible repeat (first | apply Kd.R_alloc | apply Kd.R_drewN | apply Kd.R_drew)); exact HO_138000.out⟩, ⟨by (with_reducible repeat (first | apply Kd.S_alloc | apply Kd.S_drewN | apply Kd.S_drew)); exact HO_138001.out⟩, ⟨by (with_reducible repeat (first | refine blk_drewN ?_ _ | refine blk_drew ?_ | refine blk_alloc ?_ _)); exact BK129.out⟩, ⟨by (with_reducible repeat (first | refine blk_drewN ?_ _ | refine blk_drew ?_ | refine blk_alloc ?_ _)); exact BK130.out⟩, ⟨by (with_reducible repeat (first | refine blk_drewN ?_ _ | refine blk_drew ?_ | refine blk_alloc ?_ _)); exact BK137.out⟩, ⟨by repeat (first | (with_reducible first | exact HB.out | apply below_alloc | apply pw_below_drewN | apply below_drew1 | refine below_set ?_ GE129.out | refine below_set ?_ GE130.out | refine below_set ?_ GE137.out) | exact HB.out)⟩⟩
    case round =>
     clear H'
     try clear c1
     try clear p2
     try clear c6
     try clear c8
     try clear c11
     try clear c12
     try clear c15
     try clear c15b0
     try clear c16
     try clear c17
     try clear hcz13_0
     try clear hcz13_1
     try clear hcz18_0
     try clear hcz18_1
     try clear hcz7_0
     try clear hcz7_1
     try clear hfz13_0
     try clear hfz13_1
     try clear hfz18_0
     try clear hfz18_1
     try clear hfz7_0
     try clear hfz7_1
     try clear p2
     obtain ⟨x8_2, rfl, HA, HK2, HO_138000, HO_138001, BK129, BK130, BK137, HB⟩ := hrel
     cases gk with
     | zero => exact absurd HA.out (by simp [spec_l9Insert.l1])
     | succ k2 =>
      have H := HA.out
      clear HA
      simp only [spec_l9Insert.l1] at H
      by_cases c20 : 0 ≤ x7_1
      ·rw [if_pos c20] at H
       have c20b0 : decide (0 ≤ x7_1) = true := decide_eq_true c20
       clear c20
       by_cases c21 : x7_1 < (x138001_1.length : Int)
       ·rw [if_pos c21] at H
        have c21b0 : decide (x7_1 < (x138001_1.length : Int)) = true := decide_eq_true c21
        clear c21
        by_cases c22 : x8_2 < ((rd_L1 x138001_1 x7_1).length : Int)
        ·rw [if_pos c22] at H
         have c22b0 : decide (x8_2 < ((rd_L1 x138001_1 x7_1).length : Int)) = true := decide_eq_true c22
         clear c22
         by_cases c23 : 0 ≤ x8_2
         ·rw [if_pos c23] at H
          have c23b0 : decide (0 ≤ x8_2) = true := decide_eq_true c23
          clear c23
          by_cases c24 : (rd (rd_L1 x138001_1 x7_1) x8_2) ≤ x1_1
          ·rw [if_pos c24] at H
           have c24b0 : decide ((rd (rd_L1 x138001_1 x7_1) x8_2) ≤ x1_1) = true := decide_eq_true c24
           clear c24
           have H' := Aside0.mk H
           clear H
           have hnb25 := NB137_129.out
           have hnc25 := NB129_137.out
           have hnb26 := NB137_130.out
           have hnc26 := NB130_137.out
           have hcz27_0 : wr.cell? ⟨gb137, 0, none⟩ = some (u138000) := (blk_cell BK137.out 0).trans rfl
           have hcz27_1 : wr.cell? ⟨gb137, 1, none⟩ = some (.slice Ao19 x138001_1.length co19) := (blk_cell BK137.out 1).trans rfl
           have hfz27_0 := blk_frozen BK137.out 0
           have hfz27_1 := blk_frozen BK137.out 1
           have p144 : 0 ≤ (x7_1 : Int) := of_decide_eq_true (by first | (with_reducible assumption) | assumption)
           have q144 : x7_1 < (x138001_1.length : Int) := of_decide_eq_true (by first | (with_reducible assumption) | assumption)
           obtain ⟨ad144, A144_0, c144_0, e144, hx144_0, hl144_0, hi144_0⟩ := at_L1 (Kd.S_reads' HO_138001.out).2.2 x7_1 p144 q144
           cases e144
           obtain ⟨ce144, hce144, hMe144, hcc144⟩ := Kd.S_get HO_138001.out [] x7_1 p144 (by first | exact q144 | exact of_decide_eq_true (by first | (with_reducible assumption) | assumption) | (have e_ := (Kd.S_reads' HO_138001.out).1; omega))
           obtain ⟨ve144_0, rfl, ge144_0⟩ := hMe144
           have hv144_0 := hcc144 0 _ rfl
           rw [Nat.add_zero, show ((Kd.slice 3 (Kd.int .i64))).sz = 1 from rfl, Nat.mul_one] at hv144_0
           replace hv144_0 := Option.some.inj (hv144_0.symm.trans hx144_0)
           rw [hv144_0] at ge144_0
           have HL144_0 := Aside0.mk (show Kd.R (Kd.int .i64) 3 _ _ _ _ (rd_L1 x138001_1 x7_1) from ge144_0)
           clear hv144_0 ge144_0
           have HX144_0 := Aside0.mk hx144_0
           clear hcc144 hce144
           have HR144_0 := Aside0.mk hi144_0
           have HC144_0 := Aside0.mk hl144_0
           clear hi144_0 hl144_0
           replace p144 := eq_true p144
           replace q144 := eq_true q144
           have p145 : 0 ≤ (x7_1 : Int) := of_decide_eq_true (by first | (with_reducible assumption) | assumption)
           have q145 : x7_1 < (x138001_1.length : Int) := of_decide_eq_true (by first | (with_reducible assumption) | assumption)
           obtain ⟨ad145, A145_0, c145_0, e145, hx145_0, hl145_0, hi145_0⟩ := at_L1 (Kd.S_reads' HO_138001.out).2.2 x7_1 p145 q145
           obtain rfl : ad144 = ad145 := (by injection e145)
           obtain ⟨ce145, hce145, hMe145, hcc145⟩ := Kd.S_get HO_138001.out [] x7_1 p145 (by first | exact q145 | exact of_decide_eq_true (by first | (with_reducible assumption) | assumption) | (have e_ := (Kd.S_reads' HO_138001.out).1; omega))
           obtain ⟨ve145_0, rfl, ge145_0⟩ := hMe145
           have hv145_0 := hcc145 0 _ rfl
           rw [Nat.add_zero, show ((Kd.slice 3 (Kd.int .i64))).sz = 1 from rfl, Nat.mul_one] at hv145_0
           replace hv145_0 := Option.some.inj (hv145_0.symm.trans hx145_0)
           rw [hv145_0] at ge145_0
           have HL145_0 := Aside0.mk (show Kd.R (Kd.int .i64) 3 _ _ _ _ (rd_L1 x138001_1 x7_1) from ge145_0)
           clear hv145_0 ge145_0
           have HX145_0 := Aside0.mk hx145_0
           clear hcc145 hce145
           have HR145_0 := Aside0.mk hi145_0
           have HC145_0 := Aside0.mk hl145_0
           clear hi145_0 hl145_0
           replace p145 := eq_true p145
           replace q145 := eq_true q145
           have ea_ := Option.some.inj (hx144_0.symm.trans hx145_0)
           injection ea_ with ea_ en_ ec_
           subst ea_
           subst ec_
           clear en_
           have p146 : 0 ≤ (x8_2 : Int) := of_decide_eq_true (by first | (with_reducible assumption) | assumption)
           have q146 : x8_2 < ((rd_L1 x138001_1 x7_1).length : Int) := of_decide_eq_true (by first | (with_reducible assumption) | assumption)
           obtain ⟨ad146, e146, hx146_0⟩ := Kd.at_int (by repeat (first | (with_reducible exact HR145_0.out) | (with_reducible refine Kd.C_alloc ?_ _) | (with_reducible refine Kd.C_drewN ?_ _) | (with_reducible refine Kd.C_drew ?_) | exact HR145_0.out)) x8_2 p146 q146
           cases e146
           replace p146 := eq_true p146
           replace q146 := eq_true q146
           go_wp2
           go_roundg k2
           case measure => have := HK1.out; have := HK2.out; omega
           case rel => exact ⟨(wrap64 (x8_2 + 1)), (by first | rfl | (simp; done) | (simp [*]; done)), H', ⟨by have := HK1.out; have := HK2.out; omega⟩, ⟨by (with_reducible repeat (first | apply Kd.R_alloc | apply Kd.R_drewN | apply Kd.R_drew)); exact HO_138000.out⟩, ⟨by (with_reducible repeat (first | apply Kd.S_alloc | apply Kd.S_drewN | apply Kd.S_drew)); exact HO_138001.out⟩, ⟨by (with_reducible repeat (first | refine blk_drewN ?_ _ | refine blk_drew ?_ | refine blk_alloc ?_ _)); exact BK129.out⟩, ⟨by (with_reducible repeat (first | refine blk_drewN ?_ _ | refine blk_drew ?_ | refine blk_alloc ?_ _)); exact BK130.out⟩, ⟨by (with_reducible repeat (first | refine blk_drewN ?_ _ | refine blk_drew ?_ | refine blk_alloc ?_ _)); exact BK137.out⟩, ⟨by repeat (first | (with_reducible first | exact HB.out | apply below_alloc | apply pw_below_drewN | apply below_drew1 | refine below_set ?_ GE129.out | refine below_set ?_ GE130.out | refine below_set ?_ GE137.out) | exact HB.out)⟩⟩
          ·rw [if_neg c24] at H
           have c24b0 : decide ((rd (rd_L1 x138001_1 x7_1) x8_2) ≤ x1_1) = false := decide_eq_false c24
           clear c24
           by_cases c28 : x8_2 = ((rd_L1 x138001_1 x7_1).length : Int)
           ·rw [if_pos c28] at H
            have c28b0 : (x8_2 == ((rd_L1 x138001_1 x7_1).length : Int)) = true := beq_iff_eq.mpr c28
            have c28b1 : (x8_2 != ((rd_L1 x138001_1 x7_1).length : Int)) = false := bne_eq_false_iff_eq.mpr c28
            clear c28
            by_cases c29 : (rd_L1 x138001_1 x7_1).length < 17592186044416
            ·rw [if_pos c29] at H
             have LMc29 := Aside0.mk c29
             clear c29
             obtain ⟨y149, hy149⟩ : ∃ y_ : List Int, y_ = ((rd_L1 x138001_1 x7_1) ++ [x1_1]) := ⟨_, rfl⟩
             replace H : (some (x138000_1, (x138001_1.set (x7_1 : Int).toNat y149), x7_1)) = some (r1, r2, r3) := by first | (rw [hy149]; with_reducible exact H) | (have H2_ := (Option.bind_some _ _).symm.trans H; rw [hy149]; with_reducible exact H2_) | (have H2_ := (Option.bind_some _ _).symm.trans H; with_reducible exact H2_) | with_reducible exact H | (rw [hy149]; exact H) | exact H
             have Ny149 := Aside0.mk hy149
             clear hy149
             obtain ⟨y152, hy152⟩ : ∃ y_ : List (List Int), y_ = (x138001_1.set (x7_1 : Int).toNat y149) := ⟨_, rfl⟩
             replace H : (some (x138000_1, y152, x7_1)) = some (r1, r2, r3) := by first | (rw [hy152]; with_reducible exact H) | (have H2_ := (Option.bind_some _ _).symm.trans H; rw [hy152]; with_reducible exact H2_) | (have H2_ := (Option.bind_some _ _).symm.trans H; with_reducible exact H2_) | with_reducible exact H | (rw [hy152]; exact H) | exact H
             have Ny152 := Aside0.mk hy152
             clear hy152
             simp only [Option.some.injEq, Prod.mk.injEq] at H
             obtain ⟨rfl, rfl, rfl⟩ := H
             have hnb31 := NB137_129.out
             have hnc31 := NB129_137.out
             have hnb32 := NB137_130.out
             have hnc32 := NB130_137.out
             have hcz33_0 : wr.cell? ⟨gb137, 0, none⟩ = some (u138000) := (blk_cell BK137.out 0).trans rfl
             have hcz33_1 : wr.cell? ⟨gb137, 1, none⟩ = some (.slice Ao19 x138001_1.length co19) := (blk_cell BK137.out 1).trans rfl
             have hfz33_0 := blk_frozen BK137.out 0
             have hfz33_1 := blk_frozen BK137.out 1
             have p144 : 0 ≤ (x7_1 : Int) := of_decide_eq_true (by first | (with_reducible assumption) | assumption)
             have q144 : x7_1 < (x138001_1.length : Int) := of_decide_eq_true (by first | (with_reducible assumption) | assumption)
             obtain ⟨ad144, A144_0, c144_0, e144, hx144_0, hl144_0, hi144_0⟩ := at_L1 (Kd.S_reads' HO_138001.out).2.2 x7_1 p144 q144
             cases e144
             obtain ⟨ce144, hce144, hMe144, hcc144⟩ := Kd.S_get HO_138001.out [] x7_1 p144 (by first | exact q144 | exact of_decide_eq_true (by first | (with_reducible assumption) | assumption) | (have e_ := (Kd.S_reads' HO_138001.out).1; omega))
             obtain ⟨ve144_0, rfl, ge144_0⟩ := hMe144
             have hv144_0 := hcc144 0 _ rfl
             rw [Nat.add_zero, show ((Kd.slice 3 (Kd.int .i64))).sz = 1 from rfl, Nat.mul_one] at hv144_0
             replace hv144_0 := Option.some.inj (hv144_0.symm.trans hx144_0)
             rw [hv144_0] at ge144_0
             have HL144_0 := Aside0.mk (show Kd.R (Kd.int .i64) 3 _ _ _ _ (rd_L1 x138001_1 x7_1) from ge144_0)
             clear hv144_0 ge144_0
             have HX144_0 := Aside0.mk hx144_0
             clear hcc144 hce144
             have HR144_0 := Aside0.mk hi144_0
             have HC144_0 := Aside0.mk hl144_0
             clear hi144_0 hl144_0
             replace p144 := eq_true p144
             replace q144 := eq_true q144
             have p145 : 0 ≤ (x7_1 : Int) := of_decide_eq_true (by first | (with_reducible assumption) | assumption)
             have q145 : x7_1 < (x138001_1.length : Int) := of_decide_eq_true (by first | (with_reducible assumption) | assumption)
             obtain ⟨ad145, A145_0, c145_0, e145, hx145_0, hl145_0, hi145_0⟩ := at_L1 (Kd.S_reads' HO_138001.out).2.2 x7_1 p145 q145
             obtain rfl : ad144 = ad145 := (by injection e145)
             obtain ⟨ce145, hce145, hMe145, hcc145⟩ := Kd.S_get HO_138001.out [] x7_1 p145 (by first | exact q145 | exact of_decide_eq_true (by first | (with_reducible assumption) | assumption) | (have e_ := (Kd.S_reads' HO_138001.out).1; omega))
             obtain ⟨ve145_0, rfl, ge145_0⟩ := hMe145
             have hv145_0 := hcc145 0 _ rfl
             rw [Nat.add_zero, show ((Kd.slice 3 (Kd.int .i64))).sz = 1 from rfl, Nat.mul_one] at hv145_0
             replace hv145_0 := Option.some.inj (hv145_0.symm.trans hx145_0)
             rw [hv145_0] at ge145_0
             have HL145_0 := Aside0.mk (show Kd.R (Kd.int .i64) 3 _ _ _ _ (rd_L1 x138001_1 x7_1) from ge145_0)
             clear hv145_0 ge145_0
             have HX145_0 := Aside0.mk hx145_0
             clear hcc145 hce145
             have HR145_0 := Aside0.mk hi145_0
             have HC145_0 := Aside0.mk hl145_0
             clear hi145_0 hl145_0
             replace p145 := eq_true p145
             replace q145 := eq_true q145
             have ea_ := Option.some.inj (hx144_0.symm.trans hx145_0)
             injection ea_ with ea_ en_ ec_
             subst ea_
             subst ec_
             clear en_
             have p146 : 0 ≤ (x8_2 : Int) := of_decide_eq_true (by first | (with_reducible assumption) | assumption)
             have q146 : x8_2 < ((rd_L1 x138001_1 x7_1).length : Int) := of_decide_eq_true (by first | (with_reducible assumption) | assumption)
             obtain ⟨ad146, e146, hx146_0⟩ := Kd.at_int (by repeat (first | (with_reducible exact HR145_0.out) | (with_reducible refine Kd.C_alloc ?_ _) | (with_reducible refine Kd.C_drewN ?_ _) | (with_reducible refine Kd.C_drew ?_) | exact HR145_0.out)) x8_2 p146 q146
             cases e146
             replace p146 := eq_true p146
             replace q146 := eq_true q146
             have p147 : 0 ≤ (x7_1 : Int) := of_decide_eq_true (by first | (with_reducible assumption) | assumption)
             have q147 : x7_1 < (x138001_1.length : Int) := of_decide_eq_true (by first | (with_reducible assumption) | assumption)
             obtain ⟨ad147, A147_0, c147_0, e147, hx147_0, hl147_0, hi147_0⟩ := at_L1 (Kd.S_reads' HO_138001.out).2.2 x7_1 p147 q147
             obtain rfl : ad144 = ad147 := (by injection e147)
             obtain ⟨ce147, hce147, hMe147, hcc147⟩ := Kd.S_get HO_138001.out [] x7_1 p147 (by first | exact q147 | exact of_decide_eq_true (by first | (with_reducible assumption) | assumption) | (have e_ := (Kd.S_reads' HO_138001.out).1; omega))
             obtain ⟨ve147_0, rfl, ge147_0⟩ := hMe147
             have hv147_0 := hcc147 0 _ rfl
             rw [Nat.add_zero, show ((Kd.slice 3 (Kd.int .i64))).sz = 1 from rfl, Nat.mul_one] at hv147_0
             replace hv147_0 := Option.some.inj (hv147_0.symm.trans hx147_0)
             rw [hv147_0] at ge147_0
             have HL147_0 := Aside0.mk (show Kd.R (Kd.int .i64) 3 _ _ _ _ (rd_L1 x138001_1 x7_1) from ge147_0)
             clear hv147_0 ge147_0
             have HX147_0 := Aside0.mk hx147_0
             clear hcc147 hce147
             have HR147_0 := Aside0.mk hi147_0
             have HC147_0 := Aside0.mk hl147_0
             clear hi147_0 hl147_0
             replace p147 := eq_true p147
             replace q147 := eq_true q147
             have ea_ := Option.some.inj (hx144_0.symm.trans hx147_0)
             injection ea_ with ea_ en_ ec_
             subst ea_
             subst ec_
             clear en_
             try go_wp2
             have n0_ := Aside0.mk (Kd.R_drew HO_138000.out)
             have n1_ := Aside0.mk (Kd.S_drew HO_138001.out)
             have n2_ := Aside0.mk (Kd.R_drew HL144_0.out)
             have n3_ := Aside0.mk (Kd.R_drew HL145_0.out)
             have n4_ := Aside0.mk (Kd.R_drew HL147_0.out)
             have n5_ := Aside0.mk (blk_drew BK129.out)
             have n6_ := Aside0.mk (blk_drew BK130.out)
             have n7_ := Aside0.mk (blk_drew BK137.out)
             have n8_ := Aside0.mk (Kd.C_drew HR144_0.out)
             have n9_ := Aside0.mk (Kd.C_drew HR145_0.out)
             have n10_ := Aside0.mk (Kd.C_drew HR147_0.out)
             have n11_ := Aside0.mk (below_drew1 HB.out)
             clear HO_138000
             clear HO_138001
             clear HL144_0
             clear HL145_0
             clear HL147_0
             clear BK129
             clear BK130
             clear BK137
             clear HR144_0
             clear HR145_0
             clear HR147_0
             clear HB
             have HO_138000 := n0_
             have HO_138001 := n1_
             have HL144_0 := n2_
             have HL145_0 := n3_
             have HL147_0 := n4_
             have BK129 := n5_
             have BK130 := n6_
             have BK137 := n7_
             have HR144_0 := n8_
             have HR145_0 := n9_
             have HR147_0 := n10_
             have HB := n11_
             clear n0_ n1_ n2_ n3_ n4_ n5_ n6_ n7_ n8_ n9_ n10_ n11_
             have p148 : 0 ≤ (x7_1 : Int) := of_decide_eq_true (by first | (with_reducible assumption) | assumption)
             have q148 : x7_1 < (x138001_1.length : Int) := of_decide_eq_true (by first | (with_reducible assumption) | assumption)
             obtain ⟨ad148, A148_0, c148_0, e148, hx148_0, hl148_0, hi148_0⟩ := at_L1 (Kd.S_reads' HO_138001.out).2.2 x7_1 p148 q148
             obtain rfl : ad144 = ad148 := (by injection e148)
             obtain ⟨ce148, hce148, hMe148, hcc148⟩ := Kd.S_get HO_138001.out [] x7_1 p148 (by first | exact q148 | exact of_decide_eq_true (by first | (with_reducible assumption) | assumption) | (have e_ := (Kd.S_reads' HO_138001.out).1; omega))
             obtain ⟨ve148_0, rfl, ge148_0⟩ := hMe148
             have hv148_0 := hcc148 0 _ rfl
             rw [Nat.add_zero, show ((Kd.slice 3 (Kd.int .i64))).sz = 1 from rfl, Nat.mul_one] at hv148_0
             replace hv148_0 := Option.some.inj (hv148_0.symm.trans hx148_0)
             rw [hv148_0] at ge148_0
             have HL148_0 := Aside0.mk (show Kd.R (Kd.int .i64) 3 _ _ _ _ (rd_L1 x138001_1 x7_1) from ge148_0)
             clear hv148_0 ge148_0
             have HX148_0 := Aside0.mk hx148_0
             clear hcc148 hce148
             have HR148_0 := Aside0.mk hi148_0
             have HC148_0 := Aside0.mk hl148_0
             clear hi148_0 hl148_0
             replace p148 := eq_true p148
             replace q148 := eq_true q148
             obtain ⟨go35, co35, eo35, gb35, gl35, cl35, HG35⟩ := Kd.S_form HO_138001.out (by have h_ : (x7_1 : Int) < ((x138001_1.length : Int) : Int) := of_decide_eq_true (by first | (with_reducible assumption) | assumption); have h2_ : 0 ≤ (x7_1 : Int) := (of_decide_eq_true (by first | (with_reducible assumption) | assumption)); omega)
             (first | cases eo35 | (injection eo35 with ea_ en_ ec_; (first | subst ea_ | (injection ea_ with ea_; subst ea_)); subst ec_; clear en_))
             have GB35 := Aside0.mk gb35
             have GG35 := Aside0.mk HG35
             clear gb35 gl35 HG35
             (first | simp only [add_plain] at hx144_0 | skip)
             (first | simp only [add_plain] at hx145_0 | skip)
             (first | simp only [add_plain] at hx147_0 | skip)
             (first | simp only [add_plain] at hx148_0 | skip)
             obtain ⟨oki35, ce35, hcl35, hM35, hcc35, _, _, hH35⟩ := Kd.S_elem HO_138001.out [] (x7_1 : Int) (of_decide_eq_true (by first | (with_reducible assumption) | assumption)) (by have h_ : (x7_1 : Int) < ((x138001_1.length : Int) : Int) := of_decide_eq_true (by first | (with_reducible assumption) | assumption); first | exact h_ | (have e_ := (Kd.S_reads' HO_138001.out).1; omega) | simpa using h_)
             obtain ⟨ve35_0, rfl, ge35_0⟩ := hM35
             have hv35 := hcc35 0 _ rfl
             have hX35 := HX148_0.out
             (try simp only [add_plain] at hX35)
             (try simp only [Nat.add_zero] at hv35)
             (try rw [show ((Kd.slice 3 (Kd.int .i64))).sz = 1 from rfl, Nat.mul_one] at hv35)
             replace hv35 := Option.some.inj (hv35.symm.trans hX35)
             subst hv35
             clear hX35 hcc35 hcl35
             have UU35 := Aside0.mk (show Kd.R (Kd.int .i64) 3 _ w.heap.size oki35 (.slice A148_0 (rd_L1 x138001_1 x7_1).length c148_0) (rd_L1 x138001_1 x7_1) from ge35_0)
             have HH35 := Aside0.mk hH35
             have HN35 := Aside0.mk (Kd.S_reads' HO_138001.out).1
             clear hH35 ge35_0
             refine start_ (n := 13) (S := fun w' => w'.cell? ⟨gb137, 0, none⟩ = some (u138000) ∧ w'.cell? ⟨gb137, 1, none⟩ = some (.slice (some ⟨go35, 0, none⟩) x138001_1.length co19) ∧ w'.cell? ⟨go35, (x7_1).toNat, none⟩ = some (.slice A148_0 (rd_L1 x138001_1 x7_1).length c148_0)) (ds := [12]) #[false, false, false, false, false, false, false, false, false, false, false, false, false] (by kernel_rfl) rfl rfl ⟨(blk_cell BK137.out 0).trans rfl, (blk_cell BK137.out 1).trans rfl, hx148_0⟩ (fun hHeld => ?_); refine with_tabW spec_l9Insert.tab9 spec_l9Insert.bits9 (fun HT_ HW_ => ?_)
             generalize wr.drew = w34 at HO_138000 HO_138001 HL144_0 HL145_0 HL147_0 BK129 BK130 BK137 HR144_0 HR145_0 HR147_0 HB GG35 HH35 HL148_0 HR148_0 HX148_0 UU35 hx144_0 hx145_0 hx147_0 hx148_0 hHeld ⊢
             refine pure_ (i := 0) (N := some 49) (v := ?_) (a' := ?_) #[true, false, false, false, false, false, false, false, false, false, false, false, false] rfl rfl (any_of HT_.out (by kernel_rfl)) (fun _ _ _ h => h) (Or.inl ⟨by rfl, ?_⟩) ?_ ?_
             rotate_left
             ·intro w'
              go_simp
              with_reducible rfl
             rotate_left
             ·simp only [Act.put, List.setIfInBounds_toArray, List.set_cons_zero, List.set_cons_succ, i64_w, i32_w]
              rfl
             refine pure_ (i := 2) (N := some 51) (v := ?_) (a' := ?_) #[true, false, true, false, false, false, false, false, false, false, false, false, false] rfl rfl (any_of HT_.out (by kernel_rfl)) (fun _ _ _ h => h) (Or.inl ⟨by rfl, ?_⟩) ?_ ?_
             rotate_left
             ·intro w'
              go_simp
              with_reducible rfl
             rotate_left
             ·simp only [Act.put, List.setIfInBounds_toArray, List.set_cons_zero, List.set_cons_succ, i64_w, i32_w]
              rfl
             refine pure_ (i := 3) (N := some 52) (v := ?_) (a' := ?_) #[true, false, true, true, false, false, false, false, false, false, false, false, false] rfl rfl (any_of HT_.out (by kernel_rfl)) (fun _ _ _ h => h) (Or.inl ⟨by rfl, ?_⟩) ?_ ?_
             rotate_left
             ·intro w'
              go_simp
              with_reducible rfl
             rotate_left
             ·simp only [Act.put, List.setIfInBounds_toArray, List.set_cons_zero, List.set_cons_succ, i64_w, i32_w]
              rfl
             refine pure_ (i := 5) (N := some 54) (v := ?_) (a' := ?_) #[true, false, true, true, false, true, false, false, false, false, false, false, false] rfl rfl (any_of HT_.out (by kernel_rfl)) (fun _ _ _ h => h) (Or.inl ⟨by rfl, ?_⟩) ?_ ?_
             rotate_left
             ·intro w'
              go_simp
              with_reducible rfl
             rotate_left
             ·simp only [Act.put, List.setIfInBounds_toArray, List.set_cons_zero, List.set_cons_succ, i64_w, i32_w]
              rfl
             refine pure_ (i := 8) (N := some 57) (v := ?_) (a' := ?_) #[true, false, true, true, false, true, false, false, true, false, false, false, false] rfl rfl (any_of HT_.out (by kernel_rfl)) (fun _ _ _ h => h) (Or.inl ⟨by rfl, ?_⟩) ?_ ?_
             rotate_left
             ·intro w'
              go_simp
              with_reducible rfl
             rotate_left
             ·simp only [Act.put, List.setIfInBounds_toArray, List.set_cons_zero, List.set_cons_succ, i64_w, i32_w]
              rfl
             refine take_ (i := 1) (N := some 50) (v := ?_) (a' := ?_) #[true, true, true, true, false, true, false, false, true, false, false, false, false] rfl rfl (take_ofW HT_.out HW_.out (by kernel_rfl)) (fun _ _ _ h => h) (Or.inl ⟨by rfl, ?_⟩) hHeld ?_ ?_
             rotate_left
             ·rintro w' ⟨s0, s1, s2⟩
              go_simp
              with_reducible rfl
             rotate_left
             ·simp only [Act.put, List.setIfInBounds_toArray, List.set_cons_zero, List.set_cons_succ, i64_w, i32_w]
              rfl
             refine take_ (i := 4) (N := some 53) (v := ?_) (a' := ?_) #[true, true, true, true, true, true, false, false, true, false, false, false, false] rfl rfl (take_ofW HT_.out HW_.out (by kernel_rfl)) (fun _ _ _ h => h) (Or.inl ⟨by rfl, ?_⟩) hHeld ?_ ?_
             rotate_left
             ·rintro w' ⟨s0, s1, s2⟩
              go_simp
              with_reducible rfl
             rotate_left
             ·simp only [Act.put, List.setIfInBounds_toArray, List.set_cons_zero, List.set_cons_succ, i64_w, i32_w]
              rfl
             refine pure_ (i := 6) (N := some 55) (v := ?_) (a' := ?_) #[true, true, true, true, true, true, true, false, true, false, false, false, false] rfl rfl (any_of HT_.out (by kernel_rfl)) (fun _ _ _ h => h) (Or.inl ⟨by rfl, ?_⟩) ?_ ?_
             rotate_left
             ·intro w'
              go_simp
              with_reducible rfl
             rotate_left
             ·simp only [Act.put, List.setIfInBounds_toArray, List.set_cons_zero, List.set_cons_succ, i64_w, i32_w]
              rfl
             refine take_ (i := 7) (N := some 56) (v := ?_) (a' := ?_) #[true, true, true, true, true, true, true, true, true, false, false, false, false] rfl rfl (take_ofW HT_.out HW_.out (by kernel_rfl)) (fun _ _ _ h => h) (Or.inl ⟨by rfl, ?_⟩) hHeld ?_ ?_
             rotate_left
             ·rintro w' ⟨s0, s1, s2⟩
              go_simp
              with_reducible rfl
             rotate_left
             ·simp only [Act.put, List.setIfInBounds_toArray, List.set_cons_zero, List.set_cons_succ, i64_w, i32_w]
              rfl
             refine one_ (i := 9) (N := some 58) #[true, true, true, true, true, true, true, true, true, true, false, false, false] rfl rfl (one_of HT_.out (by kernel_rfl)) (by decide) (fun K hK => ?_)
             refine value_ (w1 := ?_) (v := ?_) (by rfl) rfl ?_ ?_
             rotate_left 2
             ·go_simp
              constructor
              ·rfl
              ·rfl
             refine hK.out _ _ ⟨(blk_cell (blk_alloc BK137.out _) 0).trans rfl, (blk_cell (blk_alloc BK137.out _) 1).trans rfl, (World.cell?_alloc_lt _ _ _ (World.block_lt_of_cell? _ _ (hHeld.2.2))).trans (hHeld.2.2)⟩ (fun hHeld => ?_)
             clear hK K
             refine norm_ (a' := ?_) ?_ ?_
             rotate_left
             ·show Act.put _ (some 58) _ = _
              simp only [Act.put, List.setIfInBounds_toArray, List.set_cons_zero, List.set_cons_succ, i64_w, i32_w]
              rfl
             refine one_ (i := 10) (N := some 59) #[true, true, true, true, true, true, true, true, true, true, true, false, false] rfl rfl (one_of HT_.out (by kernel_rfl)) (by decide) (fun K hK => ?_)
             refine Kd.R_append_step (Kd.int .i64) (w0 := w) w.heap.size (by rfl) (.tmp 56) (.tmp 58) 24 3 (.int .i64 0) 8 rfl Try.underlying24 info3 rfl (by decide) (by omega) (.slice A148_0 (rd_L1 x138001_1 x7_1).length c148_0) (rd_L1 x138001_1 x7_1) x1_1 [.int .i64 x1_1] (fun k_ => oki35 k_ ∨ ((fun k_ => some k_ ≠ (u138000 : Value).ownBlock)) k_ ∧ w34.heap.size ≤ k_) (fun _ => False) rfl rfl ?aP (fun _ hk => hk.elim) ?aF ?aO ?aB ?aS ?aL ?_
             (case aP => exact rfl)
             (case aB => exact (by repeat (first | (with_reducible first | exact HB.out | apply below_alloc | apply pw_below_drewN | apply below_drew1 | refine below_set ?_ GE129.out | refine below_set ?_ GE130.out | refine below_set ?_ GE137.out) | exact HB.out)))
             (case aF => exact (fun k_ hk => .inr ⟨Kd.fresh' (Kd.R_lt (by (with_reducible repeat (first | apply Kd.R_alloc | apply Kd.R_drewN | apply Kd.R_drew)); exact HO_138000.out)) k_ hk, hk⟩))
             (case aO => exact (by (with_reducible repeat (first | apply Kd.R_alloc | apply Kd.R_drewN | apply Kd.R_drew)); exact Kd.R_mono UU35.out (fun _ hk => .inl hk)))
             (case aS => exact (below_size (by repeat (first | (with_reducible first | exact HB.out | apply below_alloc | apply pw_below_drewN | apply below_drew1 | refine below_set ?_ GE129.out | refine below_set ?_ GE130.out | refine below_set ?_ GE137.out) | exact HB.out))))
             (case aL => have := LMc29.out; omega)
             intro v150 w36 ho hb hg hat
             (first | have HS2_ := cell_grown hg (hHeld.2.2) (by first | (rw [add_block]; exact (fun e_ => ((HL148_0.out.1 _ e_.symm).2) rfl)) | (show some (Addr.add _ _).block ≠ _; rw [add_block]; exact (fun e_ => ((HL148_0.out.1 _ e_.symm).2) rfl)) | exact (fun e_ => ((HL148_0.out.1 _ e_.symm).2) rfl)) | have HS2_ := cell_grown hg (cell_unalloc (hHeld.2.2) (by first | (rw [add_block]; exact Kd.S_lt HO_138001.out _ rfl) | (show (Addr.add _ _).block < _; rw [add_block]; exact Kd.S_lt HO_138001.out _ rfl) | exact Kd.S_lt HO_138001.out _ rfl)) (by first | (rw [add_block]; exact (fun e_ => ((HL148_0.out.1 _ e_.symm).2) rfl)) | (show some (Addr.add _ _).block ≠ _; rw [add_block]; exact (fun e_ => ((HL148_0.out.1 _ e_.symm).2) rfl)) | exact (fun e_ => ((HL148_0.out.1 _ e_.symm).2) rfl)))
             rw [← Ny149.out] at ho
             have n0_ := Aside0.mk (Kd.R_grown2 (by (with_reducible repeat (first | apply Kd.R_alloc | apply Kd.R_drewN | apply Kd.R_drew)); exact HO_138000.out) rfl hg (fun k_ e_ => (HL148_0.out.1 k_ e_).1))
             have n1_ := Aside0.mk (blk_grown (g := gb129) (o := .cells #[.slice A0_0 l0_0.length c0_0, .slice A0_1 l0_1.length c0_1] 34 (0, 0)) (by (with_reducible repeat (first | refine blk_drewN ?_ _ | refine blk_drew ?_ | refine blk_alloc ?_ _)); exact BK129.out) hg (Kd.R_ne HL148_0.out BK129.out (by decide)))
             have n2_ := Aside0.mk (blk_grown (g := gb130) (o := .cells #[.slice none 0 0, .slice none 0 0] 34 (0, 0)) (by (with_reducible repeat (first | refine blk_drewN ?_ _ | refine blk_drew ?_ | refine blk_alloc ?_ _)); exact BK130.out) hg (Kd.R_ne HL148_0.out BK130.out (by decide)))
             have n3_ := Aside0.mk (blk_grown (g := gb137) (o := .cells #[u138000, .slice (some ⟨go35, 0, none⟩) x138001_1.length co19] 34 (0, 0)) (by (with_reducible repeat (first | refine blk_drewN ?_ _ | refine blk_drew ?_ | refine blk_alloc ?_ _)); exact BK137.out) hg (Kd.R_ne HL148_0.out BK137.out (by decide)))
             have n4_ := Aside0.mk (hb)
             have n5_ := Aside0.mk (Kd.H_grown (Kd.H_widen (by repeat (first | exact HH35.out | refine Kd.H_alloc ?_ _ | refine Kd.H_drewN ?_ _ | refine Kd.H_drew ?_))) hg (fun k_ e_ => .inl (UU35.out.1 k_ e_)))
             have n6_ := Aside0.mk (ho)
             clear HO_138000
             clear BK129
             clear BK130
             clear BK137
             clear HB
             clear HH35
             clear HO_138001
             clear UU35
             clear HL144_0
             clear HL145_0
             clear HL147_0
             clear HL148_0
             have HO_138000 := n0_
             have BK129 := n1_
             have BK130 := n2_
             have BK137 := n3_
             have HB := n4_
             have HH35 := n5_
             have HO151 := n6_
             clear n0_ n1_ n2_ n3_ n4_ n5_ n6_
             clear ho hb hg hat
             have p30 : 0 ≤ (x7_1 : Int) := of_decide_eq_true (by first | (with_reducible assumption) | assumption)
             have q30 : (x7_1 : Int) < ((x138001_1.length : Int) : Int) := of_decide_eq_true (by first | (with_reducible assumption) | assumption)
             replace p30 := eq_true p30
             replace q30 := eq_true q30
             obtain ⟨Ao39, co39, eo39⟩ := Kd.R_slice HO151.out
             (first | subst eo39 | (injection eo39 with f1_ f2_ f3_; have f4_ := f1_.symm; have f5_ := f3_.symm; clear f1_ f2_ f3_; subst f4_; subst f5_))
             obtain ⟨_, _, hraw37, _, _, hcc37, _⟩ := Kd.H_raw HH35.out (of_decide_eq_true (by first | (with_reducible assumption) | assumption)) (by have h_ : (x7_1 : Int) < ((x138001_1.length : Int) : Int) := of_decide_eq_true (by first | (with_reducible assumption) | assumption); first | exact h_ | (have e_ := (HN35.out); omega) | simpa using h_)
             obtain ⟨_, hfr37⟩ := Kd.H_at HH35.out (of_decide_eq_true (by first | (with_reducible assumption) | assumption)) (by have h_ : (x7_1 : Int) < ((x138001_1.length : Int) : Int) := of_decide_eq_true (by first | (with_reducible assumption) | assumption); first | exact h_ | (have e_ := (HN35.out); omega) | simpa using h_)
             have hx37_0 := hcc37 0 _ rfl
             have hf37_0 := hfr37 0
             (try simp only [Nat.add_zero] at hx37_0 hf37_0)
             (try rw [show ((Kd.slice 3 (Kd.int .i64))).sz = 1 from rfl, Nat.mul_one] at hx37_0)
             (try rw [show ((Kd.slice 3 (Kd.int .i64))).sz = 1 from rfl, Nat.mul_one] at hf37_0)
             have HP37 := Kd.S_seg0 HH35.out (of_decide_eq_true (by first | (with_reducible assumption) | assumption)) (by have h_ : (x7_1 : Int) < ((x138001_1.length : Int) : Int) := of_decide_eq_true (by first | (with_reducible assumption) | assumption); first | exact h_ | (have e_ := (HN35.out); omega) | simpa using h_) (seg := [.slice Ao39 y149.length co39]) (j := 0) (show 1 ≤ 1 from by decide) (x' := y149) (Kd.M_row HO151.out) (fun _ hk => hk)
             (try simp only [show ((Kd.slice 3 (Kd.int .i64))).sz = 1 from rfl, Nat.mul_one, Nat.add_zero] at HP37)
             clear hcc37 hfr37
             have HNB129_go35 := Aside0.mk (show gb129 ≠ go35 from by have h_ := Kd.R_ne hraw37 BK129.out (by decide); intro e_; exact h_ (by rw [e_]; rfl))
             have HNB130_go35 := Aside0.mk (show gb130 ≠ go35 from by have h_ := Kd.R_ne hraw37 BK130.out (by decide); intro e_; exact h_ (by rw [e_]; rfl))
             have HNB137_go35 := Aside0.mk (show gb137 ≠ go35 from by have h_ := Kd.R_ne hraw37 BK137.out (by decide); intro e_; exact h_ (by rw [e_]; rfl))
             have HS37 := HP37.1
             rw [← Ny152.out] at HS37
             have HQ37 := Aside0.mk HS37
             obtain ⟨_, hgg37⟩ := Kd.R_typed hraw37 go35 rfl
             have GG37_ := Aside0.mk hgg37
             clear HP37 HS37 hgg37
             refine hK.out _ _ ⟨(blk_cell BK137.out 0).trans rfl, (blk_cell BK137.out 1).trans rfl, HS2_⟩ (fun hHeld => ?_)
             clear hK K
             refine norm_ (a' := ?_) ?_ ?_
             rotate_left
             ·show Act.put _ (some 59) _ = _
              simp only [Act.put, List.setIfInBounds_toArray, List.set_cons_zero, List.set_cons_succ, i64_w, i32_w]
              rfl
             refine pure_ (i := 11) (N := some 60) (v := ?_) (a' := ?_) #[true, true, true, true, true, true, true, true, true, true, true, true, false] rfl rfl (any_of HT_.out (by kernel_rfl)) (fun _ _ _ h => h) (Or.inl ⟨by rfl, ?_⟩) ?_ ?_
             rotate_left
             ·intro w'
              go_simp
              with_reducible rfl
             rotate_left
             ·simp only [Act.put, List.setIfInBounds_toArray, List.set_cons_zero, List.set_cons_succ, i64_w, i32_w]
              rfl
             refine last_ (i := 12) (N := none) #[true, true, true, true, true, true, true, true, true, true, true, true, true] rfl rfl (one_of HT_.out (by kernel_rfl)) (by decide) (fun K hK => ?_)
             refine skip_ (w1 := ?_) (by rfl) rfl ?_ ?_
             rotate_left
             ·go_simp
              rfl
             refine hK.out _ _ ?_
             clear hK K
             refine done_ (done_of HT_.out (by kernel_rfl)) ?_
             have n0_ : Aside0 (Kd.R (Kd.int .i64) 3 (w36.setCell ⟨go35, (x7_1 : Int).toNat, none⟩ (.slice Ao39 y149.length co39)) w.heap.size (fun _ => True) u138000 x138000_1) := ⟨by (with_reducible repeat (first | apply Kd.R_alloc | apply Kd.R_drewN | apply Kd.R_drew)); exact Kd.R_mono (Kd.R_far (p := ⟨go35, (x7_1 : Int).toNat, none⟩) (Kd.R_types HO_138000.out GG37_.out (by decide)) (fun _ hk => hk.2) (.slice Ao39 y149.length co39)) (fun _ hk => trivial)⟩
             have n1_ : Aside0 (Kd.S (Kd.slice 3 (Kd.int .i64)) 24 (w36.setCell ⟨go35, (x7_1 : Int).toNat, none⟩ (.slice Ao39 y149.length co39)) w.heap.size (fun k_ => some k_ ≠ (u138000 : Value).ownBlock) (.slice (some ⟨go35, 0, none⟩) x138001_1.length co19) y152) := ⟨by (with_reducible repeat (first | apply Kd.S_alloc | apply Kd.S_drewN | apply Kd.S_drew)); exact HQ37.out⟩
             have n2_ : Aside0 ((w36.setCell ⟨go35, (x7_1 : Int).toNat, none⟩ (.slice Ao39 y149.length co39)).heap[gb129]? = some (.cells #[.slice A0_0 l0_0.length c0_0, .slice A0_1 l0_1.length c0_1] 34 (0, 0))) := ⟨by (with_reducible repeat (first | refine blk_drewN ?_ _ | refine blk_drew ?_ | refine blk_alloc ?_ _)); refine blk_far ?_ HNB129_go35.out _; (with_reducible repeat (first | refine blk_drewN ?_ _ | refine blk_drew ?_ | refine blk_alloc ?_ _)); exact BK129.out⟩
             have n3_ : Aside0 ((w36.setCell ⟨go35, (x7_1 : Int).toNat, none⟩ (.slice Ao39 y149.length co39)).heap[gb130]? = some (.cells #[.slice none 0 0, .slice none 0 0] 34 (0, 0))) := ⟨by (with_reducible repeat (first | refine blk_drewN ?_ _ | refine blk_drew ?_ | refine blk_alloc ?_ _)); refine blk_far ?_ HNB130_go35.out _; (with_reducible repeat (first | refine blk_drewN ?_ _ | refine blk_drew ?_ | refine blk_alloc ?_ _)); exact BK130.out⟩
             have n4_ : Aside0 ((w36.setCell ⟨go35, (x7_1 : Int).toNat, none⟩ (.slice Ao39 y149.length co39)).heap[gb137]? = some (.cells #[u138000, .slice (some ⟨go35, 0, none⟩) x138001_1.length co19] 34 (0, 0))) := ⟨by (with_reducible repeat (first | refine blk_drewN ?_ _ | refine blk_drew ?_ | refine blk_alloc ?_ _)); refine blk_far ?_ HNB137_go35.out _; (with_reducible repeat (first | refine blk_drewN ?_ _ | refine blk_drew ?_ | refine blk_alloc ?_ _)); exact BK137.out⟩
             have n5_ : Aside0 (Below w.heap.size w (w36.setCell ⟨go35, (x7_1 : Int).toNat, none⟩ (.slice Ao39 y149.length co39))) := ⟨by repeat (first | (with_reducible first | exact HB.out | apply below_alloc | apply pw_below_drewN | apply below_drew1 | refine below_set ?_ GB35.out | refine below_set ?_ GE129.out | refine below_set ?_ GE130.out | refine below_set ?_ GE137.out) | exact HB.out)⟩
             (try clear HO_138000)
             (try clear HO_138001)
             (try clear BK129)
             (try clear BK130)
             (try clear BK137)
             (try clear HB)
             generalize (w36.setCell ⟨go35, (x7_1 : Int).toNat, none⟩ (.slice Ao39 y149.length co39)) = w40 at n0_ n1_ n2_ n3_ n4_ n5_ ⊢
             have HO_138000 := n0_
             have HO_138001 := n1_
             have BK129 := n2_
             have BK130 := n3_
             have BK137 := n4_
             have HB := n5_
             clear n0_ n1_ n2_ n3_ n4_ n5_
             have hcz41_0 : w40.cell? ⟨gb137, 0, none⟩ = some (u138000) := (blk_cell BK137.out 0).trans rfl
             have hcz41_1 : w40.cell? ⟨gb137, 1, none⟩ = some (.slice (some ⟨go35, 0, none⟩) x138001_1.length co19) := (blk_cell BK137.out 1).trans rfl
             have hfz41_0 := blk_frozen BK137.out 0
             have hfz41_1 := blk_frozen BK137.out 1
             obtain ⟨Ao42, co42, eo42⟩ := Kd.R_slice HO_138000.out
             subst eo42
             have hnb43 := NB130_129.out
             have hnc43 := NB129_130.out
             have hcz44_0 : w40.cell? ⟨gb130, 0, none⟩ = some (.slice none 0 0) := (blk_cell BK130.out 0).trans rfl
             have hcz44_1 : w40.cell? ⟨gb130, 1, none⟩ = some (.slice none 0 0) := (blk_cell BK130.out 1).trans rfl
             have hfz44_0 := blk_frozen BK130.out 0
             have hfz44_1 := blk_frozen BK130.out 1
             try go_wp2
             refine bodyPost_ret (results_ct rfl _ _ gb130 34 #[.slice Ao42 x138000_1.length co42, .slice (some ⟨go35, 0, none⟩) x138001_1.length co19] (0, 0) _ rfl (by (with_reducible repeat (first | refine blk_drewN ?_ _ | refine blk_drew ?_ | refine blk_alloc ?_ _)); refine blk_put (cs := #[.slice Ao42 x138000_1.length co42, .slice none 0 0]) ?_ 1 _ rfl; (with_reducible repeat (first | refine blk_drewN ?_ _ | refine blk_drew ?_ | refine blk_alloc ?_ _)); refine blk_put (cs := #[.slice none 0 0, .slice none 0 0]) ?_ 0 _ rfl; (with_reducible repeat (first | refine blk_drewN ?_ _ | refine blk_drew ?_ | refine blk_alloc ?_ _)); exact BK130.out) Try.underlying34 rfl (by kernel_rfl)) rfl ?_
             exact ⟨_, _, by first | rfl | (simp [errW_none, errW_some] <;> rfl) | (simp [*, errW_none, errW_some] <;> rfl), by (with_reducible repeat (first | apply Kd.R_alloc | apply Kd.R_drewN | apply Kd.R_drew)); exact Kd.R_mono (Kd.R_far (p := ⟨gb130, 1, none⟩) (Kd.R_far (p := ⟨gb130, 0, none⟩) (Kd.R_types HO_138000.out BK130.out (by decide)) (fun _ hk => hk.2) (.slice Ao42 x138000_1.length co42)) (fun _ hk => hk.2) (.slice (some ⟨go35, 0, none⟩) x138001_1.length co19)) (fun _ hk => trivial), by (with_reducible repeat (first | apply Kd.S_alloc | apply Kd.S_drewN | apply Kd.S_drew)); exact Kd.S_mono (Kd.S_far (p := ⟨gb130, 1, none⟩) (Kd.S_far (p := ⟨gb130, 0, none⟩) (Kd.S_types HO_138001.out BK130.out (by decide)) (fun _ hk => hk.2) (.slice Ao42 x138000_1.length co42)) (fun _ hk => hk.2) (.slice (some ⟨go35, 0, none⟩) x138001_1.length co19)) (fun _ hk => hk.1), by repeat (first | (with_reducible first | exact HB.out | apply below_alloc | apply pw_below_drewN | apply below_drew1 | refine below_set ?_ GE129.out | refine below_set ?_ GE130.out | refine below_set ?_ GE137.out) | exact HB.out)⟩
            ·rw [if_neg c29] at H
             exact absurd H (by simp)
           ·rw [if_neg c28] at H
            have c28b0 : (x8_2 == ((rd_L1 x138001_1 x7_1).length : Int)) = false := beq_eq_false_iff_ne.mpr c28
            have c28b1 : (x8_2 != ((rd_L1 x138001_1 x7_1).length : Int)) = true := bne_iff_ne.mpr c28
            obtain ⟨y156, hy156⟩ : ∃ y_ : List Int, y_ = ((rd_L1 x138001_1 x7_1).set (x8_2 : Int).toNat x1_1) := ⟨_, rfl⟩
            replace H : (spec_l9Insert.l0 k2 (rd (rd_L1 x138001_1 x7_1) x8_2) (wrap64 (x7_1 + 1)) x138000_1 (x138001_1.set (x7_1 : Int).toNat y156)) = some (r1, r2, r3) := by first | (rw [hy156]; with_reducible exact H) | (have H2_ := (Option.bind_some _ _).symm.trans H; rw [hy156]; with_reducible exact H2_) | (have H2_ := (Option.bind_some _ _).symm.trans H; with_reducible exact H2_) | with_reducible exact H | (rw [hy156]; exact H) | exact H
            have Ny156 := Aside0.mk hy156
            clear hy156
            obtain ⟨y158, hy158⟩ : ∃ y_ : List (List Int), y_ = (x138001_1.set (x7_1 : Int).toNat y156) := ⟨_, rfl⟩
            replace H : (spec_l9Insert.l0 k2 (rd (rd_L1 x138001_1 x7_1) x8_2) (wrap64 (x7_1 + 1)) x138000_1 y158) = some (r1, r2, r3) := by first | (rw [hy158]; with_reducible exact H) | (have H2_ := (Option.bind_some _ _).symm.trans H; rw [hy158]; with_reducible exact H2_) | (have H2_ := (Option.bind_some _ _).symm.trans H; with_reducible exact H2_) | with_reducible exact H | (rw [hy158]; exact H) | exact H
            have Ny158 := Aside0.mk hy158
            clear hy158
            have H' := Aside0.mk H
            clear H
            have hnb46 := NB137_129.out
            have hnc46 := NB129_137.out
            have hnb47 := NB137_130.out
            have hnc47 := NB130_137.out
            have hcz48_0 : wr.cell? ⟨gb137, 0, none⟩ = some (u138000) := (blk_cell BK137.out 0).trans rfl
            have hcz48_1 : wr.cell? ⟨gb137, 1, none⟩ = some (.slice Ao19 x138001_1.length co19) := (blk_cell BK137.out 1).trans rfl
            have hfz48_0 := blk_frozen BK137.out 0
            have hfz48_1 := blk_frozen BK137.out 1
            have p144 : 0 ≤ (x7_1 : Int) := of_decide_eq_true (by first | (with_reducible assumption) | assumption)
            have q144 : x7_1 < (x138001_1.length : Int) := of_decide_eq_true (by first | (with_reducible assumption) | assumption)
            obtain ⟨ad144, A144_0, c144_0, e144, hx144_0, hl144_0, hi144_0⟩ := at_L1 (Kd.S_reads' HO_138001.out).2.2 x7_1 p144 q144
            cases e144
            obtain ⟨ce144, hce144, hMe144, hcc144⟩ := Kd.S_get HO_138001.out [] x7_1 p144 (by first | exact q144 | exact of_decide_eq_true (by first | (with_reducible assumption) | assumption) | (have e_ := (Kd.S_reads' HO_138001.out).1; omega))
            obtain ⟨ve144_0, rfl, ge144_0⟩ := hMe144
            have hv144_0 := hcc144 0 _ rfl
            rw [Nat.add_zero, show ((Kd.slice 3 (Kd.int .i64))).sz = 1 from rfl, Nat.mul_one] at hv144_0
            replace hv144_0 := Option.some.inj (hv144_0.symm.trans hx144_0)
            rw [hv144_0] at ge144_0
            have HL144_0 := Aside0.mk (show Kd.R (Kd.int .i64) 3 _ _ _ _ (rd_L1 x138001_1 x7_1) from ge144_0)
            clear hv144_0 ge144_0
            have HX144_0 := Aside0.mk hx144_0
            clear hcc144 hce144
            have HR144_0 := Aside0.mk hi144_0
            have HC144_0 := Aside0.mk hl144_0
            clear hi144_0 hl144_0
            replace p144 := eq_true p144
            replace q144 := eq_true q144
            have p145 : 0 ≤ (x7_1 : Int) := of_decide_eq_true (by first | (with_reducible assumption) | assumption)
            have q145 : x7_1 < (x138001_1.length : Int) := of_decide_eq_true (by first | (with_reducible assumption) | assumption)
            obtain ⟨ad145, A145_0, c145_0, e145, hx145_0, hl145_0, hi145_0⟩ := at_L1 (Kd.S_reads' HO_138001.out).2.2 x7_1 p145 q145
            obtain rfl : ad144 = ad145 := (by injection e145)
            obtain ⟨ce145, hce145, hMe145, hcc145⟩ := Kd.S_get HO_138001.out [] x7_1 p145 (by first | exact q145 | exact of_decide_eq_true (by first | (with_reducible assumption) | assumption) | (have e_ := (Kd.S_reads' HO_138001.out).1; omega))
            obtain ⟨ve145_0, rfl, ge145_0⟩ := hMe145
            have hv145_0 := hcc145 0 _ rfl
            rw [Nat.add_zero, show ((Kd.slice 3 (Kd.int .i64))).sz = 1 from rfl, Nat.mul_one] at hv145_0
            replace hv145_0 := Option.some.inj (hv145_0.symm.trans hx145_0)
            rw [hv145_0] at ge145_0
            have HL145_0 := Aside0.mk (show Kd.R (Kd.int .i64) 3 _ _ _ _ (rd_L1 x138001_1 x7_1) from ge145_0)
            clear hv145_0 ge145_0
            have HX145_0 := Aside0.mk hx145_0
            clear hcc145 hce145
            have HR145_0 := Aside0.mk hi145_0
            have HC145_0 := Aside0.mk hl145_0
            clear hi145_0 hl145_0
            replace p145 := eq_true p145
            replace q145 := eq_true q145
            have ea_ := Option.some.inj (hx144_0.symm.trans hx145_0)
            injection ea_ with ea_ en_ ec_
            subst ea_
            subst ec_
            clear en_
            have p146 : 0 ≤ (x8_2 : Int) := of_decide_eq_true (by first | (with_reducible assumption) | assumption)
            have q146 : x8_2 < ((rd_L1 x138001_1 x7_1).length : Int) := of_decide_eq_true (by first | (with_reducible assumption) | assumption)
            obtain ⟨ad146, e146, hx146_0⟩ := Kd.at_int (by repeat (first | (with_reducible exact HR145_0.out) | (with_reducible refine Kd.C_alloc ?_ _) | (with_reducible refine Kd.C_drewN ?_ _) | (with_reducible refine Kd.C_drew ?_) | exact HR145_0.out)) x8_2 p146 q146
            cases e146
            replace p146 := eq_true p146
            replace q146 := eq_true q146
            have p147 : 0 ≤ (x7_1 : Int) := of_decide_eq_true (by first | (with_reducible assumption) | assumption)
            have q147 : x7_1 < (x138001_1.length : Int) := of_decide_eq_true (by first | (with_reducible assumption) | assumption)
            obtain ⟨ad147, A147_0, c147_0, e147, hx147_0, hl147_0, hi147_0⟩ := at_L1 (Kd.S_reads' HO_138001.out).2.2 x7_1 p147 q147
            obtain rfl : ad144 = ad147 := (by injection e147)
            obtain ⟨ce147, hce147, hMe147, hcc147⟩ := Kd.S_get HO_138001.out [] x7_1 p147 (by first | exact q147 | exact of_decide_eq_true (by first | (with_reducible assumption) | assumption) | (have e_ := (Kd.S_reads' HO_138001.out).1; omega))
            obtain ⟨ve147_0, rfl, ge147_0⟩ := hMe147
            have hv147_0 := hcc147 0 _ rfl
            rw [Nat.add_zero, show ((Kd.slice 3 (Kd.int .i64))).sz = 1 from rfl, Nat.mul_one] at hv147_0
            replace hv147_0 := Option.some.inj (hv147_0.symm.trans hx147_0)
            rw [hv147_0] at ge147_0
            have HL147_0 := Aside0.mk (show Kd.R (Kd.int .i64) 3 _ _ _ _ (rd_L1 x138001_1 x7_1) from ge147_0)
            clear hv147_0 ge147_0
            have HX147_0 := Aside0.mk hx147_0
            clear hcc147 hce147
            have HR147_0 := Aside0.mk hi147_0
            have HC147_0 := Aside0.mk hl147_0
            clear hi147_0 hl147_0
            replace p147 := eq_true p147
            replace q147 := eq_true q147
            have ea_ := Option.some.inj (hx144_0.symm.trans hx147_0)
            injection ea_ with ea_ en_ ec_
            subst ea_
            subst ec_
            clear en_
            have p153 : 0 ≤ (x7_1 : Int) := of_decide_eq_true (by first | (with_reducible assumption) | assumption)
            have q153 : x7_1 < (x138001_1.length : Int) := of_decide_eq_true (by first | (with_reducible assumption) | assumption)
            obtain ⟨ad153, A153_0, c153_0, e153, hx153_0, hl153_0, hi153_0⟩ := at_L1 (Kd.S_reads' HO_138001.out).2.2 x7_1 p153 q153
            obtain rfl : ad144 = ad153 := (by injection e153)
            obtain ⟨ce153, hce153, hMe153, hcc153⟩ := Kd.S_get HO_138001.out [] x7_1 p153 (by first | exact q153 | exact of_decide_eq_true (by first | (with_reducible assumption) | assumption) | (have e_ := (Kd.S_reads' HO_138001.out).1; omega))
            obtain ⟨ve153_0, rfl, ge153_0⟩ := hMe153
            have hv153_0 := hcc153 0 _ rfl
            rw [Nat.add_zero, show ((Kd.slice 3 (Kd.int .i64))).sz = 1 from rfl, Nat.mul_one] at hv153_0
            replace hv153_0 := Option.some.inj (hv153_0.symm.trans hx153_0)
            rw [hv153_0] at ge153_0
            have HL153_0 := Aside0.mk (show Kd.R (Kd.int .i64) 3 _ _ _ _ (rd_L1 x138001_1 x7_1) from ge153_0)
            clear hv153_0 ge153_0
            have HX153_0 := Aside0.mk hx153_0
            clear hcc153 hce153
            have HR153_0 := Aside0.mk hi153_0
            have HC153_0 := Aside0.mk hl153_0
            clear hi153_0 hl153_0
            replace p153 := eq_true p153
            replace q153 := eq_true q153
            have ea_ := Option.some.inj (hx144_0.symm.trans hx153_0)
            injection ea_ with ea_ en_ ec_
            subst ea_
            subst ec_
            clear en_
            have p154 : 0 ≤ (x8_2 : Int) := of_decide_eq_true (by first | (with_reducible assumption) | assumption)
            have q154 : x8_2 < ((rd_L1 x138001_1 x7_1).length : Int) := of_decide_eq_true (by first | (with_reducible assumption) | assumption)
            obtain ⟨ad154, e154, hx154_0⟩ := Kd.at_int (by repeat (first | (with_reducible exact HR153_0.out) | (with_reducible refine Kd.C_alloc ?_ _) | (with_reducible refine Kd.C_drewN ?_ _) | (with_reducible refine Kd.C_drew ?_) | exact HR153_0.out)) x8_2 p154 q154
            cases e154
            replace p154 := eq_true p154
            replace q154 := eq_true q154
            have p155 : 0 ≤ (x7_1 : Int) := of_decide_eq_true (by first | (with_reducible assumption) | assumption)
            have q155 : x7_1 < (x138001_1.length : Int) := of_decide_eq_true (by first | (with_reducible assumption) | assumption)
            obtain ⟨ad155, A155_0, c155_0, e155, hx155_0, hl155_0, hi155_0⟩ := at_L1 (Kd.S_reads' HO_138001.out).2.2 x7_1 p155 q155
            obtain rfl : ad144 = ad155 := (by injection e155)
            obtain ⟨ce155, hce155, hMe155, hcc155⟩ := Kd.S_get HO_138001.out [] x7_1 p155 (by first | exact q155 | exact of_decide_eq_true (by first | (with_reducible assumption) | assumption) | (have e_ := (Kd.S_reads' HO_138001.out).1; omega))
            obtain ⟨ve155_0, rfl, ge155_0⟩ := hMe155
            have hv155_0 := hcc155 0 _ rfl
            rw [Nat.add_zero, show ((Kd.slice 3 (Kd.int .i64))).sz = 1 from rfl, Nat.mul_one] at hv155_0
            replace hv155_0 := Option.some.inj (hv155_0.symm.trans hx155_0)
            rw [hv155_0] at ge155_0
            have HL155_0 := Aside0.mk (show Kd.R (Kd.int .i64) 3 _ _ _ _ (rd_L1 x138001_1 x7_1) from ge155_0)
            clear hv155_0 ge155_0
            have HX155_0 := Aside0.mk hx155_0
            clear hcc155 hce155
            have HR155_0 := Aside0.mk hi155_0
            have HC155_0 := Aside0.mk hl155_0
            clear hi155_0 hl155_0
            replace p155 := eq_true p155
            replace q155 := eq_true q155
            have ea_ := Option.some.inj (hx144_0.symm.trans hx155_0)
            injection ea_ with ea_ en_ ec_
            subst ea_
            subst ec_
            clear en_
            have p45 : 0 ≤ (x8_2 : Int) := of_decide_eq_true (by first | (with_reducible assumption) | assumption)
            have q45 : (x8_2 : Int) < (((rd_L1 x138001_1 x7_1).length : Int) : Int) := of_decide_eq_true (by first | (with_reducible assumption) | assumption)
            obtain ⟨go45, co45, eo45, gb45, gl45, cl45, HG45⟩ := Kd.R_form HL155_0.out (by omega)
            (first | cases eo45 | (injection eo45 with ea_ en_ ec_; (first | subst ea_ | (injection ea_ with ea_; subst ea_)); subst ec_; clear en_))
            have GB45 := Aside0.mk gb45
            have GG45 := Aside0.mk HG45
            clear gb45 gl45 HG45
            (first | simp only [add_plain] at hx154_0 | skip)
            obtain ⟨hx45_0, hf45_0⟩ := Kd.R_celln 0 HL155_0.out (x8_2 : Int) p45 q45
            replace p45 := eq_true p45
            replace q45 := eq_true q45
            have hq49 : (x7_1 : Int) < (x138001_1.length : Int) := (by have h_ : (x7_1 : Int) < ((x138001_1.length : Int) : Int) := of_decide_eq_true (by first | (with_reducible assumption) | assumption); first | exact h_ | (have e_ := (Kd.S_reads' HO_138001.out).1; omega) | simpa only [List.length_set, List.length_set] using h_)
            obtain ⟨oki49, ce49, hcl49, hM49, hcc49, hok49, hbk49⟩ := Kd.S_borrow HO_138001.out [] (x7_1 : Int) (of_decide_eq_true (by first | (with_reducible assumption) | assumption)) hq49
            obtain ⟨ve49_0, rfl, ge49_0⟩ := hM49
            have hv49 := hcc49 0 _ rfl
            rw [Nat.add_zero, show ((Kd.slice 3 (Kd.int .i64))).sz = 1 from rfl, Nat.mul_one] at hv49
            replace hv49 := Option.some.inj (hv49.symm.trans HX155_0.out)
            subst hv49
            clear hcc49 hcl49
            replace ge49_0 := (show Kd.R (Kd.int .i64) 3 _ _ _ _ (rd_L1 x138001_1 x7_1) from ge49_0)
            have HP49 := Kd.R_putg ge49_0 (x8_2 : Int) x1_1
            go_wp2_with (first | ((with_reducible refine gate_store (t := 3) (p := 78) rfl ?_); refine store_event (t := 3) (p := 78) (v := ?vo_w50) (w1 := (wr.setCell ⟨go45, (x8_2 : Int).toNat, none⟩ (.int .i64 x1_1))) ?hg ?ho ?hn ?hr ?_; (case ho => rfl); (case hg => rfl); (case hn => rfl); (case hr => first | (go_simp; done) | (go_simp; rfl)); intro w50 hw; have hg : wr.grownBy w50 (some go45) := (by rw [hw]; exact HP49.2); have hz_ : Kd.R (Kd.int .i64) 3 w50 w.heap.size oki49 (.slice (some ⟨go45, 0, none⟩) (rd_L1 x138001_1 x7_1).length c144_0) y156 := (by rw [hw, Ny156.out]; exact HP49.1); have hp_ : Kd.S (Kd.slice 3 (Kd.int .i64)) 24 w50 w.heap.size (fun k_ => some k_ ≠ (u138000 : Value).ownBlock) (.slice (some ad144) x138001_1.length co19) y158 := (by rw [Ny158.out]; exact hbk49 hg (fun k_ e_ => by injection e_ with e_; subst e_; exact ge49_0.1 _ rfl) (Kd.M_row hz_)); have hm_ := Kd.R_mono hz_ hok49; clear HP49 hbk49; have n0_ := Aside0.mk (Kd.R_grown1 (by (with_reducible repeat (first | apply Kd.R_alloc | apply Kd.R_drewN | apply Kd.R_drew)); exact HO_138000.out) rfl hg ((HL155_0.out.1 _ rfl).1)); have n1_ := Aside0.mk (hp_); have n2_ := Aside0.mk (blk_grown (g := gb129) (o := .cells #[.slice A0_0 l0_0.length c0_0, .slice A0_1 l0_1.length c0_1] 34 (0, 0)) (by (with_reducible repeat (first | refine blk_drewN ?_ _ | refine blk_drew ?_ | refine blk_alloc ?_ _)); exact BK129.out) hg (Kd.R_ne HL155_0.out BK129.out (by decide))); have n3_ := Aside0.mk (blk_grown (g := gb130) (o := .cells #[.slice none 0 0, .slice none 0 0] 34 (0, 0)) (by (with_reducible repeat (first | refine blk_drewN ?_ _ | refine blk_drew ?_ | refine blk_alloc ?_ _)); exact BK130.out) hg (Kd.R_ne HL155_0.out BK130.out (by decide))); have n4_ := Aside0.mk (blk_grown (g := gb137) (o := .cells #[u138000, .slice (some ad144) x138001_1.length co19] 34 (0, 0)) (by (with_reducible repeat (first | refine blk_drewN ?_ _ | refine blk_drew ?_ | refine blk_alloc ?_ _)); exact BK137.out) hg (Kd.R_ne HL155_0.out BK137.out (by decide))); have n5_ := Aside0.mk ((by rw [hw]; exact below_set (HB.out) GB45.out : Below w.heap.size w w50)); have n6_ := Aside0.mk (hm_); have n7_ := Aside0.mk ((Kd.R_reads' hm_).2.1); clear HO_138000; clear HO_138001; clear BK129; clear BK130; clear BK137; clear HB; clear HL144_0; clear HL145_0; clear HL147_0; clear HL153_0; clear HL155_0; have HO_138000 := n0_; have HO_138001 := n1_; have BK129 := n2_; have BK130 := n3_; have BK137 := n4_; have HB := n5_; have HL166 := n6_; have HC157 := n7_; clear n0_ n1_ n2_ n3_ n4_ n5_ n6_ n7_; clear hg hw hp_ hz_ hm_ hok49))
            go_roundg k2
            case measure => have := HK1.out; have := HK2.out; omega
            case rel => exact ⟨(rd (rd_L1 x138001_1 x7_1) x8_2), (wrap64 (x7_1 + 1)), (x138000_1), (y158), (u138000), (.slice (some ad144) x138001_1.length co19), (by first | rfl | (simp; done) | (simp [*]; done)), (by first | rfl | (simp; done) | (simp [*]; done)), H', ⟨by have := HK1.out; have := HK2.out; omega⟩, ⟨by (with_reducible repeat (first | apply Kd.R_alloc | apply Kd.R_drewN | apply Kd.R_drew)); exact HO_138000.out⟩, ⟨by (with_reducible repeat (first | apply Kd.S_alloc | apply Kd.S_drewN | apply Kd.S_drew)); exact HO_138001.out⟩, ⟨by (with_reducible repeat (first | refine blk_drewN ?_ _ | refine blk_drew ?_ | refine blk_alloc ?_ _)); exact BK129.out⟩, ⟨by (with_reducible repeat (first | refine blk_drewN ?_ _ | refine blk_drew ?_ | refine blk_alloc ?_ _)); exact BK130.out⟩, ⟨by (with_reducible repeat (first | refine blk_drewN ?_ _ | refine blk_drew ?_ | refine blk_alloc ?_ _)); exact BK137.out⟩, ⟨by repeat (first | (with_reducible first | exact HB.out | apply below_alloc | apply pw_below_drewN | apply below_drew1 | refine below_set ?_ GE129.out | refine below_set ?_ GE130.out | refine below_set ?_ GE137.out) | exact HB.out)⟩⟩
         ·rw [if_neg c23] at H
          exact absurd H (by simp)
        ·rw [if_neg c22] at H
         have c22b0 : decide (x8_2 < ((rd_L1 x138001_1 x7_1).length : Int)) = false := decide_eq_false c22
         clear c22
         by_cases c51 : x8_2 = ((rd_L1 x138001_1 x7_1).length : Int)
         ·rw [if_pos c51] at H
          have c51b0 : (x8_2 == ((rd_L1 x138001_1 x7_1).length : Int)) = true := beq_iff_eq.mpr c51
          have c51b1 : (x8_2 != ((rd_L1 x138001_1 x7_1).length : Int)) = false := bne_eq_false_iff_eq.mpr c51
          clear c51
          by_cases c52 : (rd_L1 x138001_1 x7_1).length < 17592186044416
          ·rw [if_pos c52] at H
           have LMc52 := Aside0.mk c52
           clear c52
           obtain ⟨y161, hy161⟩ : ∃ y_ : List Int, y_ = ((rd_L1 x138001_1 x7_1) ++ [x1_1]) := ⟨_, rfl⟩
           replace H : (some (x138000_1, (x138001_1.set (x7_1 : Int).toNat y161), x7_1)) = some (r1, r2, r3) := by first | (rw [hy161]; with_reducible exact H) | (have H2_ := (Option.bind_some _ _).symm.trans H; rw [hy161]; with_reducible exact H2_) | (have H2_ := (Option.bind_some _ _).symm.trans H; with_reducible exact H2_) | with_reducible exact H | (rw [hy161]; exact H) | exact H
           have Ny161 := Aside0.mk hy161
           clear hy161
           obtain ⟨y164, hy164⟩ : ∃ y_ : List (List Int), y_ = (x138001_1.set (x7_1 : Int).toNat y161) := ⟨_, rfl⟩
           replace H : (some (x138000_1, y164, x7_1)) = some (r1, r2, r3) := by first | (rw [hy164]; with_reducible exact H) | (have H2_ := (Option.bind_some _ _).symm.trans H; rw [hy164]; with_reducible exact H2_) | (have H2_ := (Option.bind_some _ _).symm.trans H; with_reducible exact H2_) | with_reducible exact H | (rw [hy164]; exact H) | exact H
           have Ny164 := Aside0.mk hy164
           clear hy164
           simp only [Option.some.injEq, Prod.mk.injEq] at H
           obtain ⟨rfl, rfl, rfl⟩ := H
           have hnb54 := NB137_129.out
           have hnc54 := NB129_137.out
           have hnb55 := NB137_130.out
           have hnc55 := NB130_137.out
           have hcz56_0 : wr.cell? ⟨gb137, 0, none⟩ = some (u138000) := (blk_cell BK137.out 0).trans rfl
           have hcz56_1 : wr.cell? ⟨gb137, 1, none⟩ = some (.slice Ao19 x138001_1.length co19) := (blk_cell BK137.out 1).trans rfl
           have hfz56_0 := blk_frozen BK137.out 0
           have hfz56_1 := blk_frozen BK137.out 1
           have p144 : 0 ≤ (x7_1 : Int) := of_decide_eq_true (by first | (with_reducible assumption) | assumption)
           have q144 : x7_1 < (x138001_1.length : Int) := of_decide_eq_true (by first | (with_reducible assumption) | assumption)
           obtain ⟨ad144, A144_0, c144_0, e144, hx144_0, hl144_0, hi144_0⟩ := at_L1 (Kd.S_reads' HO_138001.out).2.2 x7_1 p144 q144
           cases e144
           obtain ⟨ce144, hce144, hMe144, hcc144⟩ := Kd.S_get HO_138001.out [] x7_1 p144 (by first | exact q144 | exact of_decide_eq_true (by first | (with_reducible assumption) | assumption) | (have e_ := (Kd.S_reads' HO_138001.out).1; omega))
           obtain ⟨ve144_0, rfl, ge144_0⟩ := hMe144
           have hv144_0 := hcc144 0 _ rfl
           rw [Nat.add_zero, show ((Kd.slice 3 (Kd.int .i64))).sz = 1 from rfl, Nat.mul_one] at hv144_0
           replace hv144_0 := Option.some.inj (hv144_0.symm.trans hx144_0)
           rw [hv144_0] at ge144_0
           have HL144_0 := Aside0.mk (show Kd.R (Kd.int .i64) 3 _ _ _ _ (rd_L1 x138001_1 x7_1) from ge144_0)
           clear hv144_0 ge144_0
           have HX144_0 := Aside0.mk hx144_0
           clear hcc144 hce144
           have HR144_0 := Aside0.mk hi144_0
           have HC144_0 := Aside0.mk hl144_0
           clear hi144_0 hl144_0
           replace p144 := eq_true p144
           replace q144 := eq_true q144
           have p159 : 0 ≤ (x7_1 : Int) := of_decide_eq_true (by first | (with_reducible assumption) | assumption)
           have q159 : x7_1 < (x138001_1.length : Int) := of_decide_eq_true (by first | (with_reducible assumption) | assumption)
           obtain ⟨ad159, A159_0, c159_0, e159, hx159_0, hl159_0, hi159_0⟩ := at_L1 (Kd.S_reads' HO_138001.out).2.2 x7_1 p159 q159
           obtain rfl : ad144 = ad159 := (by injection e159)
           obtain ⟨ce159, hce159, hMe159, hcc159⟩ := Kd.S_get HO_138001.out [] x7_1 p159 (by first | exact q159 | exact of_decide_eq_true (by first | (with_reducible assumption) | assumption) | (have e_ := (Kd.S_reads' HO_138001.out).1; omega))
           obtain ⟨ve159_0, rfl, ge159_0⟩ := hMe159
           have hv159_0 := hcc159 0 _ rfl
           rw [Nat.add_zero, show ((Kd.slice 3 (Kd.int .i64))).sz = 1 from rfl, Nat.mul_one] at hv159_0
           replace hv159_0 := Option.some.inj (hv159_0.symm.trans hx159_0)
           rw [hv159_0] at ge159_0
           have HL159_0 := Aside0.mk (show Kd.R (Kd.int .i64) 3 _ _ _ _ (rd_L1 x138001_1 x7_1) from ge159_0)
           clear hv159_0 ge159_0
           have HX159_0 := Aside0.mk hx159_0
           clear hcc159 hce159
           have HR159_0 := Aside0.mk hi159_0
           have HC159_0 := Aside0.mk hl159_0
           clear hi159_0 hl159_0
           replace p159 := eq_true p159
           replace q159 := eq_true q159
           have ea_ := Option.some.inj (hx144_0.symm.trans hx159_0)
           injection ea_ with ea_ en_ ec_
           subst ea_
           subst ec_
           clear en_
           try go_wp2
           have n0_ := Aside0.mk (Kd.R_drew HO_138000.out)
           have n1_ := Aside0.mk (Kd.S_drew HO_138001.out)
           have n2_ := Aside0.mk (Kd.R_drew HL144_0.out)
           have n3_ := Aside0.mk (Kd.R_drew HL159_0.out)
           have n4_ := Aside0.mk (blk_drew BK129.out)
           have n5_ := Aside0.mk (blk_drew BK130.out)
           have n6_ := Aside0.mk (blk_drew BK137.out)
           have n7_ := Aside0.mk (Kd.C_drew HR144_0.out)
           have n8_ := Aside0.mk (Kd.C_drew HR159_0.out)
           have n9_ := Aside0.mk (below_drew1 HB.out)
           clear HO_138000
           clear HO_138001
           clear HL144_0
           clear HL159_0
           clear BK129
           clear BK130
           clear BK137
           clear HR144_0
           clear HR159_0
           clear HB
           have HO_138000 := n0_
           have HO_138001 := n1_
           have HL144_0 := n2_
           have HL159_0 := n3_
           have BK129 := n4_
           have BK130 := n5_
           have BK137 := n6_
           have HR144_0 := n7_
           have HR159_0 := n8_
           have HB := n9_
           clear n0_ n1_ n2_ n3_ n4_ n5_ n6_ n7_ n8_ n9_
           have p160 : 0 ≤ (x7_1 : Int) := of_decide_eq_true (by first | (with_reducible assumption) | assumption)
           have q160 : x7_1 < (x138001_1.length : Int) := of_decide_eq_true (by first | (with_reducible assumption) | assumption)
           obtain ⟨ad160, A160_0, c160_0, e160, hx160_0, hl160_0, hi160_0⟩ := at_L1 (Kd.S_reads' HO_138001.out).2.2 x7_1 p160 q160
           obtain rfl : ad144 = ad160 := (by injection e160)
           obtain ⟨ce160, hce160, hMe160, hcc160⟩ := Kd.S_get HO_138001.out [] x7_1 p160 (by first | exact q160 | exact of_decide_eq_true (by first | (with_reducible assumption) | assumption) | (have e_ := (Kd.S_reads' HO_138001.out).1; omega))
           obtain ⟨ve160_0, rfl, ge160_0⟩ := hMe160
           have hv160_0 := hcc160 0 _ rfl
           rw [Nat.add_zero, show ((Kd.slice 3 (Kd.int .i64))).sz = 1 from rfl, Nat.mul_one] at hv160_0
           replace hv160_0 := Option.some.inj (hv160_0.symm.trans hx160_0)
           rw [hv160_0] at ge160_0
           have HL160_0 := Aside0.mk (show Kd.R (Kd.int .i64) 3 _ _ _ _ (rd_L1 x138001_1 x7_1) from ge160_0)
           clear hv160_0 ge160_0
           have HX160_0 := Aside0.mk hx160_0
           clear hcc160 hce160
           have HR160_0 := Aside0.mk hi160_0
           have HC160_0 := Aside0.mk hl160_0
           clear hi160_0 hl160_0
           replace p160 := eq_true p160
           replace q160 := eq_true q160
           obtain ⟨go58, co58, eo58, gb58, gl58, cl58, HG58⟩ := Kd.S_form HO_138001.out (by have h_ : (x7_1 : Int) < ((x138001_1.length : Int) : Int) := of_decide_eq_true (by first | (with_reducible assumption) | assumption); have h2_ : 0 ≤ (x7_1 : Int) := (of_decide_eq_true (by first | (with_reducible assumption) | assumption)); omega)
           (first | cases eo58 | (injection eo58 with ea_ en_ ec_; (first | subst ea_ | (injection ea_ with ea_; subst ea_)); subst ec_; clear en_))
           have GB58 := Aside0.mk gb58
           have GG58 := Aside0.mk HG58
           clear gb58 gl58 HG58
           (first | simp only [add_plain] at hx144_0 | skip)
           (first | simp only [add_plain] at hx145_0 | skip)
           (first | simp only [add_plain] at hx147_0 | skip)
           (first | simp only [add_plain] at hx153_0 | skip)
           (first | simp only [add_plain] at hx155_0 | skip)
           (first | simp only [add_plain] at hx159_0 | skip)
           (first | simp only [add_plain] at hx160_0 | skip)
           obtain ⟨oki58, ce58, hcl58, hM58, hcc58, _, _, hH58⟩ := Kd.S_elem HO_138001.out [] (x7_1 : Int) (of_decide_eq_true (by first | (with_reducible assumption) | assumption)) (by have h_ : (x7_1 : Int) < ((x138001_1.length : Int) : Int) := of_decide_eq_true (by first | (with_reducible assumption) | assumption); first | exact h_ | (have e_ := (Kd.S_reads' HO_138001.out).1; omega) | simpa using h_)
           obtain ⟨ve58_0, rfl, ge58_0⟩ := hM58
           have hv58 := hcc58 0 _ rfl
           have hX58 := HX160_0.out
           (try simp only [add_plain] at hX58)
           (try simp only [Nat.add_zero] at hv58)
           (try rw [show ((Kd.slice 3 (Kd.int .i64))).sz = 1 from rfl, Nat.mul_one] at hv58)
           replace hv58 := Option.some.inj (hv58.symm.trans hX58)
           subst hv58
           clear hX58 hcc58 hcl58
           have UU58 := Aside0.mk (show Kd.R (Kd.int .i64) 3 _ w.heap.size oki58 (.slice A160_0 (rd_L1 x138001_1 x7_1).length c160_0) (rd_L1 x138001_1 x7_1) from ge58_0)
           have HH58 := Aside0.mk hH58
           have HN58 := Aside0.mk (Kd.S_reads' HO_138001.out).1
           clear hH58 ge58_0
           refine start_ (n := 13) (S := fun w' => w'.cell? ⟨gb137, 0, none⟩ = some (u138000) ∧ w'.cell? ⟨gb137, 1, none⟩ = some (.slice (some ⟨go58, 0, none⟩) x138001_1.length co19) ∧ w'.cell? ⟨go58, (x7_1).toNat, none⟩ = some (.slice A160_0 (rd_L1 x138001_1 x7_1).length c160_0)) (ds := [12]) #[false, false, false, false, false, false, false, false, false, false, false, false, false] (by kernel_rfl) rfl rfl ⟨(blk_cell BK137.out 0).trans rfl, (blk_cell BK137.out 1).trans rfl, hx160_0⟩ (fun hHeld => ?_); refine with_tabW spec_l9Insert.tab9 spec_l9Insert.bits9 (fun HT_ HW_ => ?_)
           generalize wr.drew = w57 at HO_138000 HO_138001 HL144_0 HL159_0 BK129 BK130 BK137 HR144_0 HR159_0 HB GG58 HH58 HL160_0 HR160_0 HX160_0 UU58 hx144_0 hx159_0 hx160_0 hHeld ⊢
           refine pure_ (i := 0) (N := some 49) (v := ?_) (a' := ?_) #[true, false, false, false, false, false, false, false, false, false, false, false, false] rfl rfl (any_of HT_.out (by kernel_rfl)) (fun _ _ _ h => h) (Or.inl ⟨by rfl, ?_⟩) ?_ ?_
           rotate_left
           ·intro w'
            go_simp
            with_reducible rfl
           rotate_left
           ·simp only [Act.put, List.setIfInBounds_toArray, List.set_cons_zero, List.set_cons_succ, i64_w, i32_w]
            rfl
           refine pure_ (i := 2) (N := some 51) (v := ?_) (a' := ?_) #[true, false, true, false, false, false, false, false, false, false, false, false, false] rfl rfl (any_of HT_.out (by kernel_rfl)) (fun _ _ _ h => h) (Or.inl ⟨by rfl, ?_⟩) ?_ ?_
           rotate_left
           ·intro w'
            go_simp
            with_reducible rfl
           rotate_left
           ·simp only [Act.put, List.setIfInBounds_toArray, List.set_cons_zero, List.set_cons_succ, i64_w, i32_w]
            rfl
           refine pure_ (i := 3) (N := some 52) (v := ?_) (a' := ?_) #[true, false, true, true, false, false, false, false, false, false, false, false, false] rfl rfl (any_of HT_.out (by kernel_rfl)) (fun _ _ _ h => h) (Or.inl ⟨by rfl, ?_⟩) ?_ ?_
           rotate_left
           ·intro w'
            go_simp
            with_reducible rfl
           rotate_left
           ·simp only [Act.put, List.setIfInBounds_toArray, List.set_cons_zero, List.set_cons_succ, i64_w, i32_w]
            rfl
           refine pure_ (i := 5) (N := some 54) (v := ?_) (a' := ?_) #[true, false, true, true, false, true, false, false, false, false, false, false, false] rfl rfl (any_of HT_.out (by kernel_rfl)) (fun _ _ _ h => h) (Or.inl ⟨by rfl, ?_⟩) ?_ ?_
           rotate_left
           ·intro w'
            go_simp
            with_reducible rfl
           rotate_left
           ·simp only [Act.put, List.setIfInBounds_toArray, List.set_cons_zero, List.set_cons_succ, i64_w, i32_w]
            rfl
           refine pure_ (i := 8) (N := some 57) (v := ?_) (a' := ?_) #[true, false, true, true, false, true, false, false, true, false, false, false, false] rfl rfl (any_of HT_.out (by kernel_rfl)) (fun _ _ _ h => h) (Or.inl ⟨by rfl, ?_⟩) ?_ ?_
           rotate_left
           ·intro w'
            go_simp
            with_reducible rfl
           rotate_left
           ·simp only [Act.put, List.setIfInBounds_toArray, List.set_cons_zero, List.set_cons_succ, i64_w, i32_w]
            rfl
           refine take_ (i := 1) (N := some 50) (v := ?_) (a' := ?_) #[true, true, true, true, false, true, false, false, true, false, false, false, false] rfl rfl (take_ofW HT_.out HW_.out (by kernel_rfl)) (fun _ _ _ h => h) (Or.inl ⟨by rfl, ?_⟩) hHeld ?_ ?_
           rotate_left
           ·rintro w' ⟨s0, s1, s2⟩
            go_simp
            with_reducible rfl
           rotate_left
           ·simp only [Act.put, List.setIfInBounds_toArray, List.set_cons_zero, List.set_cons_succ, i64_w, i32_w]
            rfl
           refine take_ (i := 4) (N := some 53) (v := ?_) (a' := ?_) #[true, true, true, true, true, true, false, false, true, false, false, false, false] rfl rfl (take_ofW HT_.out HW_.out (by kernel_rfl)) (fun _ _ _ h => h) (Or.inl ⟨by rfl, ?_⟩) hHeld ?_ ?_
           rotate_left
           ·rintro w' ⟨s0, s1, s2⟩
            go_simp
            with_reducible rfl
           rotate_left
           ·simp only [Act.put, List.setIfInBounds_toArray, List.set_cons_zero, List.set_cons_succ, i64_w, i32_w]
            rfl
           refine pure_ (i := 6) (N := some 55) (v := ?_) (a' := ?_) #[true, true, true, true, true, true, true, false, true, false, false, false, false] rfl rfl (any_of HT_.out (by kernel_rfl)) (fun _ _ _ h => h) (Or.inl ⟨by rfl, ?_⟩) ?_ ?_
           rotate_left
           ·intro w'
            go_simp
            with_reducible rfl
           rotate_left
           ·simp only [Act.put, List.setIfInBounds_toArray, List.set_cons_zero, List.set_cons_succ, i64_w, i32_w]
            rfl
           refine take_ (i := 7) (N := some 56) (v := ?_) (a' := ?_) #[true, true, true, true, true, true, true, true, true, false, false, false, false] rfl rfl (take_ofW HT_.out HW_.out (by kernel_rfl)) (fun _ _ _ h => h) (Or.inl ⟨by rfl, ?_⟩) hHeld ?_ ?_
           rotate_left
           ·rintro w' ⟨s0, s1, s2⟩
            go_simp
            with_reducible rfl
           rotate_left
           ·simp only [Act.put, List.setIfInBounds_toArray, List.set_cons_zero, List.set_cons_succ, i64_w, i32_w]
            rfl
           refine one_ (i := 9) (N := some 58) #[true, true, true, true, true, true, true, true, true, true, false, false, false] rfl rfl (one_of HT_.out (by kernel_rfl)) (by decide) (fun K hK => ?_)
           refine value_ (w1 := ?_) (v := ?_) (by rfl) rfl ?_ ?_
           rotate_left 2
           ·go_simp
            constructor
            ·rfl
            ·rfl
           refine hK.out _ _ ⟨(blk_cell (blk_alloc BK137.out _) 0).trans rfl, (blk_cell (blk_alloc BK137.out _) 1).trans rfl, (World.cell?_alloc_lt _ _ _ (World.block_lt_of_cell? _ _ (hHeld.2.2))).trans (hHeld.2.2)⟩ (fun hHeld => ?_)
           clear hK K
           refine norm_ (a' := ?_) ?_ ?_
           rotate_left
           ·show Act.put _ (some 58) _ = _
            simp only [Act.put, List.setIfInBounds_toArray, List.set_cons_zero, List.set_cons_succ, i64_w, i32_w]
            rfl
           refine one_ (i := 10) (N := some 59) #[true, true, true, true, true, true, true, true, true, true, true, false, false] rfl rfl (one_of HT_.out (by kernel_rfl)) (by decide) (fun K hK => ?_)
           refine Kd.R_append_step (Kd.int .i64) (w0 := w) w.heap.size (by rfl) (.tmp 56) (.tmp 58) 24 3 (.int .i64 0) 8 rfl Try.underlying24 info3 rfl (by decide) (by omega) (.slice A160_0 (rd_L1 x138001_1 x7_1).length c160_0) (rd_L1 x138001_1 x7_1) x1_1 [.int .i64 x1_1] (fun k_ => oki58 k_ ∨ ((fun k_ => some k_ ≠ (u138000 : Value).ownBlock)) k_ ∧ w57.heap.size ≤ k_) (fun _ => False) rfl rfl ?aP (fun _ hk => hk.elim) ?aF ?aO ?aB ?aS ?aL ?_
           (case aP => exact rfl)
           (case aB => exact (by repeat (first | (with_reducible first | exact HB.out | apply below_alloc | apply pw_below_drewN | apply below_drew1 | refine below_set ?_ GE129.out | refine below_set ?_ GE130.out | refine below_set ?_ GE137.out) | exact HB.out)))
           (case aF => exact (fun k_ hk => .inr ⟨Kd.fresh' (Kd.R_lt (by (with_reducible repeat (first | apply Kd.R_alloc | apply Kd.R_drewN | apply Kd.R_drew)); exact HO_138000.out)) k_ hk, hk⟩))
           (case aO => exact (by (with_reducible repeat (first | apply Kd.R_alloc | apply Kd.R_drewN | apply Kd.R_drew)); exact Kd.R_mono UU58.out (fun _ hk => .inl hk)))
           (case aS => exact (below_size (by repeat (first | (with_reducible first | exact HB.out | apply below_alloc | apply pw_below_drewN | apply below_drew1 | refine below_set ?_ GE129.out | refine below_set ?_ GE130.out | refine below_set ?_ GE137.out) | exact HB.out))))
           (case aL => have := LMc52.out; omega)
           intro v162 w59 ho hb hg hat
           (first | have HS2_ := cell_grown hg (hHeld.2.2) (by first | (rw [add_block]; exact (fun e_ => ((HL160_0.out.1 _ e_.symm).2) rfl)) | (show some (Addr.add _ _).block ≠ _; rw [add_block]; exact (fun e_ => ((HL160_0.out.1 _ e_.symm).2) rfl)) | exact (fun e_ => ((HL160_0.out.1 _ e_.symm).2) rfl)) | have HS2_ := cell_grown hg (cell_unalloc (hHeld.2.2) (by first | (rw [add_block]; exact Kd.S_lt HO_138001.out _ rfl) | (show (Addr.add _ _).block < _; rw [add_block]; exact Kd.S_lt HO_138001.out _ rfl) | exact Kd.S_lt HO_138001.out _ rfl)) (by first | (rw [add_block]; exact (fun e_ => ((HL160_0.out.1 _ e_.symm).2) rfl)) | (show some (Addr.add _ _).block ≠ _; rw [add_block]; exact (fun e_ => ((HL160_0.out.1 _ e_.symm).2) rfl)) | exact (fun e_ => ((HL160_0.out.1 _ e_.symm).2) rfl)))
           rw [← Ny161.out] at ho
           have n0_ := Aside0.mk (Kd.R_grown2 (by (with_reducible repeat (first | apply Kd.R_alloc | apply Kd.R_drewN | apply Kd.R_drew)); exact HO_138000.out) rfl hg (fun k_ e_ => (HL160_0.out.1 k_ e_).1))
           have n1_ := Aside0.mk (blk_grown (g := gb129) (o := .cells #[.slice A0_0 l0_0.length c0_0, .slice A0_1 l0_1.length c0_1] 34 (0, 0)) (by (with_reducible repeat (first | refine blk_drewN ?_ _ | refine blk_drew ?_ | refine blk_alloc ?_ _)); exact BK129.out) hg (Kd.R_ne HL160_0.out BK129.out (by decide)))
           have n2_ := Aside0.mk (blk_grown (g := gb130) (o := .cells #[.slice none 0 0, .slice none 0 0] 34 (0, 0)) (by (with_reducible repeat (first | refine blk_drewN ?_ _ | refine blk_drew ?_ | refine blk_alloc ?_ _)); exact BK130.out) hg (Kd.R_ne HL160_0.out BK130.out (by decide)))
           have n3_ := Aside0.mk (blk_grown (g := gb137) (o := .cells #[u138000, .slice (some ⟨go58, 0, none⟩) x138001_1.length co19] 34 (0, 0)) (by (with_reducible repeat (first | refine blk_drewN ?_ _ | refine blk_drew ?_ | refine blk_alloc ?_ _)); exact BK137.out) hg (Kd.R_ne HL160_0.out BK137.out (by decide)))
           have n4_ := Aside0.mk (hb)
           have n5_ := Aside0.mk (Kd.H_grown (Kd.H_widen (by repeat (first | exact HH58.out | refine Kd.H_alloc ?_ _ | refine Kd.H_drewN ?_ _ | refine Kd.H_drew ?_))) hg (fun k_ e_ => .inl (UU58.out.1 k_ e_)))
           have n6_ := Aside0.mk (ho)
           clear HO_138000
           clear BK129
           clear BK130
           clear BK137
           clear HB
           clear HH58
           clear HO_138001
           clear UU58
           clear HL144_0
           clear HL159_0
           clear HL160_0
           have HO_138000 := n0_
           have BK129 := n1_
           have BK130 := n2_
           have BK137 := n3_
           have HB := n4_
           have HH58 := n5_
           have HO163 := n6_
           clear n0_ n1_ n2_ n3_ n4_ n5_ n6_
           clear ho hb hg hat
           have p53 : 0 ≤ (x7_1 : Int) := of_decide_eq_true (by first | (with_reducible assumption) | assumption)
           have q53 : (x7_1 : Int) < ((x138001_1.length : Int) : Int) := of_decide_eq_true (by first | (with_reducible assumption) | assumption)
           replace p53 := eq_true p53
           replace q53 := eq_true q53
           obtain ⟨Ao62, co62, eo62⟩ := Kd.R_slice HO163.out
           (first | subst eo62 | (injection eo62 with f1_ f2_ f3_; have f4_ := f1_.symm; have f5_ := f3_.symm; clear f1_ f2_ f3_; subst f4_; subst f5_))
           obtain ⟨_, _, hraw60, _, _, hcc60, _⟩ := Kd.H_raw HH58.out (of_decide_eq_true (by first | (with_reducible assumption) | assumption)) (by have h_ : (x7_1 : Int) < ((x138001_1.length : Int) : Int) := of_decide_eq_true (by first | (with_reducible assumption) | assumption); first | exact h_ | (have e_ := (HN58.out); omega) | simpa using h_)
           obtain ⟨_, hfr60⟩ := Kd.H_at HH58.out (of_decide_eq_true (by first | (with_reducible assumption) | assumption)) (by have h_ : (x7_1 : Int) < ((x138001_1.length : Int) : Int) := of_decide_eq_true (by first | (with_reducible assumption) | assumption); first | exact h_ | (have e_ := (HN58.out); omega) | simpa using h_)
           have hx60_0 := hcc60 0 _ rfl
           have hf60_0 := hfr60 0
           (try simp only [Nat.add_zero] at hx60_0 hf60_0)
           (try rw [show ((Kd.slice 3 (Kd.int .i64))).sz = 1 from rfl, Nat.mul_one] at hx60_0)
           (try rw [show ((Kd.slice 3 (Kd.int .i64))).sz = 1 from rfl, Nat.mul_one] at hf60_0)
           have HP60 := Kd.S_seg0 HH58.out (of_decide_eq_true (by first | (with_reducible assumption) | assumption)) (by have h_ : (x7_1 : Int) < ((x138001_1.length : Int) : Int) := of_decide_eq_true (by first | (with_reducible assumption) | assumption); first | exact h_ | (have e_ := (HN58.out); omega) | simpa using h_) (seg := [.slice Ao62 y161.length co62]) (j := 0) (show 1 ≤ 1 from by decide) (x' := y161) (Kd.M_row HO163.out) (fun _ hk => hk)
           (try simp only [show ((Kd.slice 3 (Kd.int .i64))).sz = 1 from rfl, Nat.mul_one, Nat.add_zero] at HP60)
           clear hcc60 hfr60
           have HNB129_go58 := Aside0.mk (show gb129 ≠ go58 from by have h_ := Kd.R_ne hraw60 BK129.out (by decide); intro e_; exact h_ (by rw [e_]; rfl))
           have HNB130_go58 := Aside0.mk (show gb130 ≠ go58 from by have h_ := Kd.R_ne hraw60 BK130.out (by decide); intro e_; exact h_ (by rw [e_]; rfl))
           have HNB137_go58 := Aside0.mk (show gb137 ≠ go58 from by have h_ := Kd.R_ne hraw60 BK137.out (by decide); intro e_; exact h_ (by rw [e_]; rfl))
           have HS60 := HP60.1
           rw [← Ny164.out] at HS60
           have HQ60 := Aside0.mk HS60
           obtain ⟨_, hgg60⟩ := Kd.R_typed hraw60 go58 rfl
           have GG60_ := Aside0.mk hgg60
           clear HP60 HS60 hgg60
           refine hK.out _ _ ⟨(blk_cell BK137.out 0).trans rfl, (blk_cell BK137.out 1).trans rfl, HS2_⟩ (fun hHeld => ?_)
           clear hK K
           refine norm_ (a' := ?_) ?_ ?_
           rotate_left
           ·show Act.put _ (some 59) _ = _
            simp only [Act.put, List.setIfInBounds_toArray, List.set_cons_zero, List.set_cons_succ, i64_w, i32_w]
            rfl
           refine pure_ (i := 11) (N := some 60) (v := ?_) (a' := ?_) #[true, true, true, true, true, true, true, true, true, true, true, true, false] rfl rfl (any_of HT_.out (by kernel_rfl)) (fun _ _ _ h => h) (Or.inl ⟨by rfl, ?_⟩) ?_ ?_
           rotate_left
           ·intro w'
            go_simp
            with_reducible rfl
           rotate_left
           ·simp only [Act.put, List.setIfInBounds_toArray, List.set_cons_zero, List.set_cons_succ, i64_w, i32_w]
            rfl
           refine last_ (i := 12) (N := none) #[true, true, true, true, true, true, true, true, true, true, true, true, true] rfl rfl (one_of HT_.out (by kernel_rfl)) (by decide) (fun K hK => ?_)
           refine skip_ (w1 := ?_) (by rfl) rfl ?_ ?_
           rotate_left
           ·go_simp
            rfl
           refine hK.out _ _ ?_
           clear hK K
           refine done_ (done_of HT_.out (by kernel_rfl)) ?_
           have n0_ : Aside0 (Kd.R (Kd.int .i64) 3 (w59.setCell ⟨go58, (x7_1 : Int).toNat, none⟩ (.slice Ao62 y161.length co62)) w.heap.size (fun _ => True) u138000 x138000_1) := ⟨by (with_reducible repeat (first | apply Kd.R_alloc | apply Kd.R_drewN | apply Kd.R_drew)); exact Kd.R_mono (Kd.R_far (p := ⟨go58, (x7_1 : Int).toNat, none⟩) (Kd.R_types HO_138000.out GG60_.out (by decide)) (fun _ hk => hk.2) (.slice Ao62 y161.length co62)) (fun _ hk => trivial)⟩
           have n1_ : Aside0 (Kd.S (Kd.slice 3 (Kd.int .i64)) 24 (w59.setCell ⟨go58, (x7_1 : Int).toNat, none⟩ (.slice Ao62 y161.length co62)) w.heap.size (fun k_ => some k_ ≠ (u138000 : Value).ownBlock) (.slice (some ⟨go58, 0, none⟩) x138001_1.length co19) y164) := ⟨by (with_reducible repeat (first | apply Kd.S_alloc | apply Kd.S_drewN | apply Kd.S_drew)); exact HQ60.out⟩
           have n2_ : Aside0 ((w59.setCell ⟨go58, (x7_1 : Int).toNat, none⟩ (.slice Ao62 y161.length co62)).heap[gb129]? = some (.cells #[.slice A0_0 l0_0.length c0_0, .slice A0_1 l0_1.length c0_1] 34 (0, 0))) := ⟨by (with_reducible repeat (first | refine blk_drewN ?_ _ | refine blk_drew ?_ | refine blk_alloc ?_ _)); refine blk_far ?_ HNB129_go58.out _; (with_reducible repeat (first | refine blk_drewN ?_ _ | refine blk_drew ?_ | refine blk_alloc ?_ _)); exact BK129.out⟩
           have n3_ : Aside0 ((w59.setCell ⟨go58, (x7_1 : Int).toNat, none⟩ (.slice Ao62 y161.length co62)).heap[gb130]? = some (.cells #[.slice none 0 0, .slice none 0 0] 34 (0, 0))) := ⟨by (with_reducible repeat (first | refine blk_drewN ?_ _ | refine blk_drew ?_ | refine blk_alloc ?_ _)); refine blk_far ?_ HNB130_go58.out _; (with_reducible repeat (first | refine blk_drewN ?_ _ | refine blk_drew ?_ | refine blk_alloc ?_ _)); exact BK130.out⟩
           have n4_ : Aside0 ((w59.setCell ⟨go58, (x7_1 : Int).toNat, none⟩ (.slice Ao62 y161.length co62)).heap[gb137]? = some (.cells #[u138000, .slice (some ⟨go58, 0, none⟩) x138001_1.length co19] 34 (0, 0))) := ⟨by (with_reducible repeat (first | refine blk_drewN ?_ _ | refine blk_drew ?_ | refine blk_alloc ?_ _)); refine blk_far ?_ HNB137_go58.out _; (with_reducible repeat (first | refine blk_drewN ?_ _ | refine blk_drew ?_ | refine blk_alloc ?_ _)); exact BK137.out⟩
           have n5_ : Aside0 (Below w.heap.size w (w59.setCell ⟨go58, (x7_1 : Int).toNat, none⟩ (.slice Ao62 y161.length co62))) := ⟨by repeat (first | (with_reducible first | exact HB.out | apply below_alloc | apply pw_below_drewN | apply below_drew1 | refine below_set ?_ GB58.out | refine below_set ?_ GE129.out | refine below_set ?_ GE130.out | refine below_set ?_ GE137.out) | exact HB.out)⟩
           (try clear HO_138000)
           (try clear HO_138001)
           (try clear BK129)
           (try clear BK130)
           (try clear BK137)
           (try clear HB)
           generalize (w59.setCell ⟨go58, (x7_1 : Int).toNat, none⟩ (.slice Ao62 y161.length co62)) = w63 at n0_ n1_ n2_ n3_ n4_ n5_ ⊢
           have HO_138000 := n0_
           have HO_138001 := n1_
           have BK129 := n2_
           have BK130 := n3_
           have BK137 := n4_
           have HB := n5_
           clear n0_ n1_ n2_ n3_ n4_ n5_
           have hcz64_0 : w63.cell? ⟨gb137, 0, none⟩ = some (u138000) := (blk_cell BK137.out 0).trans rfl
           have hcz64_1 : w63.cell? ⟨gb137, 1, none⟩ = some (.slice (some ⟨go58, 0, none⟩) x138001_1.length co19) := (blk_cell BK137.out 1).trans rfl
           have hfz64_0 := blk_frozen BK137.out 0
           have hfz64_1 := blk_frozen BK137.out 1
           obtain ⟨Ao65, co65, eo65⟩ := Kd.R_slice HO_138000.out
           subst eo65
           have hnb66 := NB130_129.out
           have hnc66 := NB129_130.out
           have hcz67_0 : w63.cell? ⟨gb130, 0, none⟩ = some (.slice none 0 0) := (blk_cell BK130.out 0).trans rfl
           have hcz67_1 : w63.cell? ⟨gb130, 1, none⟩ = some (.slice none 0 0) := (blk_cell BK130.out 1).trans rfl
           have hfz67_0 := blk_frozen BK130.out 0
           have hfz67_1 := blk_frozen BK130.out 1
           try go_wp2
           refine bodyPost_ret (results_ct rfl _ _ gb130 34 #[.slice Ao65 x138000_1.length co65, .slice (some ⟨go58, 0, none⟩) x138001_1.length co19] (0, 0) _ rfl (by (with_reducible repeat (first | refine blk_drewN ?_ _ | refine blk_drew ?_ | refine blk_alloc ?_ _)); refine blk_put (cs := #[.slice Ao65 x138000_1.length co65, .slice none 0 0]) ?_ 1 _ rfl; (with_reducible repeat (first | refine blk_drewN ?_ _ | refine blk_drew ?_ | refine blk_alloc ?_ _)); refine blk_put (cs := #[.slice none 0 0, .slice none 0 0]) ?_ 0 _ rfl; (with_reducible repeat (first | refine blk_drewN ?_ _ | refine blk_drew ?_ | refine blk_alloc ?_ _)); exact BK130.out) Try.underlying34 rfl (by kernel_rfl)) rfl ?_
           exact ⟨_, _, by first | rfl | (simp [errW_none, errW_some] <;> rfl) | (simp [*, errW_none, errW_some] <;> rfl), by (with_reducible repeat (first | apply Kd.R_alloc | apply Kd.R_drewN | apply Kd.R_drew)); exact Kd.R_mono (Kd.R_far (p := ⟨gb130, 1, none⟩) (Kd.R_far (p := ⟨gb130, 0, none⟩) (Kd.R_types HO_138000.out BK130.out (by decide)) (fun _ hk => hk.2) (.slice Ao65 x138000_1.length co65)) (fun _ hk => hk.2) (.slice (some ⟨go58, 0, none⟩) x138001_1.length co19)) (fun _ hk => trivial), by (with_reducible repeat (first | apply Kd.S_alloc | apply Kd.S_drewN | apply Kd.S_drew)); exact Kd.S_mono (Kd.S_far (p := ⟨gb130, 1, none⟩) (Kd.S_far (p := ⟨gb130, 0, none⟩) (Kd.S_types HO_138001.out BK130.out (by decide)) (fun _ hk => hk.2) (.slice Ao65 x138000_1.length co65)) (fun _ hk => hk.2) (.slice (some ⟨go58, 0, none⟩) x138001_1.length co19)) (fun _ hk => hk.1), by repeat (first | (with_reducible first | exact HB.out | apply below_alloc | apply pw_below_drewN | apply below_drew1 | refine below_set ?_ GE129.out | refine below_set ?_ GE130.out | refine below_set ?_ GE137.out) | exact HB.out)⟩
          ·rw [if_neg c52] at H
           exact absurd H (by simp)
         ·rw [if_neg c51] at H
          have c51b0 : (x8_2 == ((rd_L1 x138001_1 x7_1).length : Int)) = false := beq_eq_false_iff_ne.mpr c51
          have c51b1 : (x8_2 != ((rd_L1 x138001_1 x7_1).length : Int)) = true := bne_iff_ne.mpr c51
          by_cases c68 : 0 ≤ x8_2
          ·rw [if_pos c68] at H
           exact absurd H (by simp)
          ·rw [if_neg c68] at H
           exact absurd H (by simp)
       ·rw [if_neg c21] at H
        exact absurd H (by simp)
      ·rw [if_neg c20] at H
       exact absurd H (by simp)
   ·rw [if_neg c15] at H
    have c15b0 : decide (x7_1 < (x138001_1.length : Int)) = false := decide_eq_false c15
    clear c15
    obtain ⟨y138, hy138⟩ : ∃ y_ : List Int, y_ = (([x1_1] : List Int)) := ⟨_, rfl⟩
    replace H : (if x138001_1.length < 5864062014805 then ((some (x138001_1 ++ [y138] : List (List Int))).bind fun y141 => (some (x138000_1, y141, wrap64 ((y141.length : Int) - 1)))) else (none)) = some (r1, r2, r3) := by first | (rw [hy138]; with_reducible exact H) | (have H2_ := (Option.bind_some _ _).symm.trans H; rw [hy138]; with_reducible exact H2_) | (have H2_ := (Option.bind_some _ _).symm.trans H; with_reducible exact H2_) | with_reducible exact H | (rw [hy138]; exact H) | exact H
    have Ny138 := Aside0.mk hy138
    clear hy138
    by_cases c69 : x138001_1.length < 5864062014805
    ·rw [if_pos c69] at H
     have LMc69 := Aside0.mk c69
     clear c69
     obtain ⟨y141, hy141⟩ : ∃ y_ : List (List Int), y_ = (x138001_1 ++ [y138]) := ⟨_, rfl⟩
     replace H : (some (x138000_1, y141, wrap64 ((y141.length : Int) - 1))) = some (r1, r2, r3) := by first | (rw [hy141]; with_reducible exact H) | (have H2_ := (Option.bind_some _ _).symm.trans H; rw [hy141]; with_reducible exact H2_) | (have H2_ := (Option.bind_some _ _).symm.trans H; with_reducible exact H2_) | with_reducible exact H | (rw [hy141]; exact H) | exact H
     have Ny141 := Aside0.mk hy141
     clear hy141
     simp only [Option.some.injEq, Prod.mk.injEq] at H
     obtain ⟨rfl, rfl, rfl⟩ := H
     have hnb70 := NB137_129.out
     have hnc70 := NB129_137.out
     have hnb71 := NB137_130.out
     have hnc71 := NB130_137.out
     have hcz72_0 : wr.cell? ⟨gb137, 0, none⟩ = some (u138000) := (blk_cell BK137.out 0).trans rfl
     have hcz72_1 : wr.cell? ⟨gb137, 1, none⟩ = some (u138001) := (blk_cell BK137.out 1).trans rfl
     have hfz72_0 := blk_frozen BK137.out 0
     have hfz72_1 := blk_frozen BK137.out 1
     obtain ⟨Ao73, co73, eo73⟩ := Kd.S_slice HO_138001.out
     subst eo73
     try go_wp2_with (first | ((with_reducible refine gate_dst (N := 83) rfl ?_); refine Kd.R_lit (Kd.int .i64) _ 3 ?hg (N := 83) ?hd (xs := ([x1_1] : List Int)) (inner := [.int .i64 x1_1]) (ok := fun _ => True) (okp := fun _ => True) ?hr ?hp (fun _ hk => hk) trivial (Below.refl _ _) (Nat.le_refl _) (by simp) ?_; (case hd => rfl); (case hg => rfl); (case hr => first | (go_simp; done) | (go_simp; rfl)); (case hp => exact (Reps.one (show Kd.M (Kd.int .i64) _ _ _ x1_1 [.int .i64 x1_1] from rfl) (Reps.none _ _))); intro v139 w74 ho75 hb hg_ hnew_; clear hg_ hnew_; (first | rw [← Ny138.out] at ho75 | (simp only [Int.reduceToNat] at ho75; rw [← Ny138.out] at ho75)); have n0_ := Aside0.mk (Kd.R_elder' (by (with_reducible repeat (first | apply Kd.R_alloc | apply Kd.R_drewN | apply Kd.R_drew)); exact HO_138000.out) (Kd.R_base ho75) hb); have n1_ := Aside0.mk (Kd.S_elder' (by (with_reducible repeat (first | apply Kd.S_alloc | apply Kd.S_drewN | apply Kd.S_drew)); exact HO_138001.out) (Kd.R_base ho75) hb); have n2_ := Aside0.mk (Kd.R_lower (Kd.R_new' ho75 (Kd.R_lt (by (with_reducible repeat (first | apply Kd.R_alloc | apply Kd.R_drewN | apply Kd.R_drew)); exact HO_138000.out))) (below_size (by repeat (first | (with_reducible first | exact HB.out | apply below_alloc | apply pw_below_drewN | apply below_drew1 | refine below_set ?_ GE129.out | refine below_set ?_ GE130.out | refine below_set ?_ GE137.out) | exact HB.out)))); have n3_ := Aside0.mk (blk_below (g := gb129) (o := .cells #[.slice A0_0 l0_0.length c0_0, .slice A0_1 l0_1.length c0_1] 34 (0, 0)) (by (with_reducible repeat (first | refine blk_drewN ?_ _ | refine blk_drew ?_ | refine blk_alloc ?_ _)); exact BK129.out) hb); have n4_ := Aside0.mk (blk_below (g := gb130) (o := .cells #[.slice none 0 0, .slice none 0 0] 34 (0, 0)) (by (with_reducible repeat (first | refine blk_drewN ?_ _ | refine blk_drew ?_ | refine blk_alloc ?_ _)); exact BK130.out) hb); have n5_ := Aside0.mk (blk_below (g := gb137) (o := .cells #[u138000, .slice Ao73 x138001_1.length co73] 34 (0, 0)) (by (with_reducible repeat (first | refine blk_drewN ?_ _ | refine blk_drew ?_ | refine blk_alloc ?_ _)); exact BK137.out) hb); have n6_ := Aside0.mk (below_step (by repeat (first | (with_reducible first | exact HB.out | apply below_alloc | apply pw_below_drewN | apply below_drew1 | refine below_set ?_ GE129.out | refine below_set ?_ GE130.out | refine below_set ?_ GE137.out) | exact HB.out)) hb); clear HO_138000; clear HO_138001; clear BK129; clear BK130; clear BK137; clear HB; have HO_138000 := n0_; have HO_138001 := n1_; have HO140 := n2_; have BK129 := n3_; have BK130 := n4_; have BK137 := n5_; have HB := n6_; clear n0_ n1_ n2_ n3_ n4_ n5_ n6_; clear hb ho75; obtain ⟨Ao77, co77, eo77⟩ := Kd.R_slice HO140.out; subst eo77) | ((with_reducible refine gate_builtin (b := .append) (xs := #[.tmp 81, .tmp 84]) rfl ?_); at_builtin; refine Kd.S_append (Kd.slice 3 (Kd.int .i64)) (w0 := w) w.heap.size rfl (.tmp 81) (.tmp 84) 32 24 (.slice none 0 0) 24 rfl Try.underlying32 info24 rfl (by decide) (by omega) (.slice Ao73 x138001_1.length co73) x138001_1 y138 [.slice Ao77 y138.length co77] (fun k_ => some k_ ≠ (u138000 : Value).ownBlock) (fun k_ => some k_ = (.slice Ao77 y138.length co77 : Value).ownBlock) rfl rfl ?aP (fun k_ hk_ => ((Kd.R_mono (ok' := fun k_ => ((fun k_ => some k_ ≠ (u138000 : Value).ownBlock)) k_ ∧ some k_ ≠ (.slice Ao73 x138001_1.length co73 : Value).ownBlock) (Kd.R_apart' (HO140.out) (Kd.S_typed HO_138001.out) (by decide)) (fun k_ hk => ⟨hk.1.2, hk.2⟩))).1 k_ hk_.symm) ?aF ?aO ?aB ?aS ?aL ?_; (case aP => exact Kd.M_row (Kd.R_mono (Kd.R_tight rfl (Kd.R_mono (ok' := fun k_ => ((fun k_ => some k_ ≠ (u138000 : Value).ownBlock)) k_ ∧ some k_ ≠ (.slice Ao73 x138001_1.length co73 : Value).ownBlock) (Kd.R_apart' (HO140.out) (Kd.S_typed HO_138001.out) (by decide)) (fun k_ hk => ⟨hk.1.2, hk.2⟩))) (fun _ h_ => h_))); (case aB => exact (by repeat (first | (with_reducible first | exact HB.out | apply below_alloc | apply pw_below_drewN | apply below_drew1 | refine below_set ?_ GE129.out | refine below_set ?_ GE130.out | refine below_set ?_ GE137.out) | exact HB.out))); (case aF => exact (fun k_ hk => Kd.fresh' (Kd.R_lt (by (with_reducible repeat (first | apply Kd.R_alloc | apply Kd.R_drewN | apply Kd.R_drew)); exact HO_138000.out)) k_ hk)); (case aO => exact (by (with_reducible repeat (first | apply Kd.S_alloc | apply Kd.S_drewN | apply Kd.S_drew)); exact Kd.S_mono HO_138001.out (fun k_ hk => ⟨hk.1, fun e_ => hk.2 e_⟩))); (case aS => exact (below_size (by repeat (first | (with_reducible first | exact HB.out | apply below_alloc | apply pw_below_drewN | apply below_drew1 | refine below_set ?_ GE129.out | refine below_set ?_ GE130.out | refine below_set ?_ GE137.out) | exact HB.out)))); (case aL => have := LMc69.out; omega); intro v142 w76 ho hb hg hat; rw [← Ny141.out] at ho; have n0_ := Aside0.mk (Kd.R_over' (by (with_reducible repeat (first | apply Kd.R_alloc | apply Kd.R_drewN | apply Kd.R_drew)); exact HO_138000.out) (Kd.S_typed (by (with_reducible repeat (first | apply Kd.S_alloc | apply Kd.S_drewN | apply Kd.S_drew)); exact HO_138001.out)) (by decide) hg); have n1_ := Aside0.mk (blk_grown (g := gb129) (o := .cells #[.slice A0_0 l0_0.length c0_0, .slice A0_1 l0_1.length c0_1] 34 (0, 0)) (by (with_reducible repeat (first | refine blk_drewN ?_ _ | refine blk_drew ?_ | refine blk_alloc ?_ _)); exact BK129.out) hg (Kd.S_ne HO_138001.out BK129.out (by decide))); have n2_ := Aside0.mk (blk_grown (g := gb130) (o := .cells #[.slice none 0 0, .slice none 0 0] 34 (0, 0)) (by (with_reducible repeat (first | refine blk_drewN ?_ _ | refine blk_drew ?_ | refine blk_alloc ?_ _)); exact BK130.out) hg (Kd.S_ne HO_138001.out BK130.out (by decide))); have n3_ := Aside0.mk (blk_grown (g := gb137) (o := .cells #[u138000, .slice Ao73 x138001_1.length co73] 34 (0, 0)) (by (with_reducible repeat (first | refine blk_drewN ?_ _ | refine blk_drew ?_ | refine blk_alloc ?_ _)); exact BK137.out) hg (Kd.S_ne HO_138001.out BK137.out (by decide))); have n4_ := Aside0.mk (hb); have n5_ := Aside0.mk (ho); clear HO_138000; clear BK129; clear BK130; clear BK137; clear HB; clear HO_138001; clear HO140; have HO_138000 := n0_; have BK129 := n1_; have BK130 := n2_; have BK137 := n3_; have HB := n4_; have HO143 := n5_; clear n0_ n1_ n2_ n3_ n4_ n5_; clear ho hb hg hat; obtain ⟨Ao78, co78, eo78⟩ := Kd.S_slice HO143.out; subst eo78; have hcz79_0 : w76.cell? ⟨gb137, 0, none⟩ = some (u138000) := (blk_cell BK137.out 0).trans rfl; have hcz79_1 : w76.cell? ⟨gb137, 1, none⟩ = some (.slice Ao73 x138001_1.length co73) := (blk_cell BK137.out 1).trans rfl; have hfz79_0 := blk_frozen BK137.out 0; have hfz79_1 := blk_frozen BK137.out 1))
     have n0_ : Aside0 (Kd.R (Kd.int .i64) 3 (w76.setCell ⟨gb137, 1, none⟩ (.slice Ao78 y141.length co78)) w.heap.size (fun _ => True) u138000 x138000_1) := ⟨by (with_reducible repeat (first | apply Kd.R_alloc | apply Kd.R_drewN | apply Kd.R_drew)); exact Kd.R_mono (Kd.R_far (p := ⟨gb137, 1, none⟩) (Kd.R_types HO_138000.out BK137.out (by decide)) (fun _ hk => hk.2) (.slice Ao78 y141.length co78)) (fun _ hk => trivial)⟩
     have n1_ : Aside0 (Kd.S (Kd.slice 3 (Kd.int .i64)) 24 (w76.setCell ⟨gb137, 1, none⟩ (.slice Ao78 y141.length co78)) w.heap.size (fun k_ => some k_ ≠ (u138000 : Value).ownBlock) (.slice Ao78 y141.length co78) y141) := ⟨by (with_reducible repeat (first | apply Kd.S_alloc | apply Kd.S_drewN | apply Kd.S_drew)); exact Kd.S_mono (Kd.S_far (p := ⟨gb137, 1, none⟩) (Kd.S_types HO143.out BK137.out (by decide)) (fun _ hk => hk.2) (.slice Ao78 y141.length co78)) (fun _ hk => hk.1)⟩
     have n2_ : Aside0 ((w76.setCell ⟨gb137, 1, none⟩ (.slice Ao78 y141.length co78)).heap[gb129]? = some (.cells #[.slice A0_0 l0_0.length c0_0, .slice A0_1 l0_1.length c0_1] 34 (0, 0))) := ⟨by (with_reducible repeat (first | refine blk_drewN ?_ _ | refine blk_drew ?_ | refine blk_alloc ?_ _)); refine blk_far ?_ NB129_137.out _; (with_reducible repeat (first | refine blk_drewN ?_ _ | refine blk_drew ?_ | refine blk_alloc ?_ _)); exact BK129.out⟩
     have n3_ : Aside0 ((w76.setCell ⟨gb137, 1, none⟩ (.slice Ao78 y141.length co78)).heap[gb130]? = some (.cells #[.slice none 0 0, .slice none 0 0] 34 (0, 0))) := ⟨by (with_reducible repeat (first | refine blk_drewN ?_ _ | refine blk_drew ?_ | refine blk_alloc ?_ _)); refine blk_far ?_ NB130_137.out _; (with_reducible repeat (first | refine blk_drewN ?_ _ | refine blk_drew ?_ | refine blk_alloc ?_ _)); exact BK130.out⟩
     have n4_ : Aside0 ((w76.setCell ⟨gb137, 1, none⟩ (.slice Ao78 y141.length co78)).heap[gb137]? = some (.cells #[u138000, .slice Ao78 y141.length co78] 34 (0, 0))) := ⟨by (with_reducible repeat (first | refine blk_drewN ?_ _ | refine blk_drew ?_ | refine blk_alloc ?_ _)); refine blk_put (cs := #[u138000, .slice Ao73 x138001_1.length co73]) ?_ 1 _ rfl; (with_reducible repeat (first | refine blk_drewN ?_ _ | refine blk_drew ?_ | refine blk_alloc ?_ _)); exact BK137.out⟩
     have n5_ : Aside0 (Below w.heap.size w (w76.setCell ⟨gb137, 1, none⟩ (.slice Ao78 y141.length co78))) := ⟨by repeat (first | (with_reducible first | exact HB.out | apply below_alloc | apply pw_below_drewN | apply below_drew1 | refine below_set ?_ GE129.out | refine below_set ?_ GE130.out | refine below_set ?_ GE137.out) | exact HB.out)⟩
     (try clear HO_138000)
     (try clear HO143)
     (try clear BK129)
     (try clear BK130)
     (try clear BK137)
     (try clear HB)
     generalize (w76.setCell ⟨gb137, 1, none⟩ (.slice Ao78 y141.length co78)) = w80 at n0_ n1_ n2_ n3_ n4_ n5_ ⊢
     have HO_138000 := n0_
     have HO143 := n1_
     have BK129 := n2_
     have BK130 := n3_
     have BK137 := n4_
     have HB := n5_
     clear n0_ n1_ n2_ n3_ n4_ n5_
     have n0_ := Aside0.mk (Kd.R_drew HO_138000.out)
     have n1_ := Aside0.mk (Kd.S_drew HO143.out)
     have n2_ := Aside0.mk (blk_drew BK129.out)
     have n3_ := Aside0.mk (blk_drew BK130.out)
     have n4_ := Aside0.mk (blk_drew BK137.out)
     have n5_ := Aside0.mk (below_drew1 HB.out)
     clear HO_138000
     clear HO143
     clear BK129
     clear BK130
     clear BK137
     clear HB
     have HO_138000 := n0_
     have HO143 := n1_
     have BK129 := n2_
     have BK130 := n3_
     have BK137 := n4_
     have HB := n5_
     clear n0_ n1_ n2_ n3_ n4_ n5_
     obtain ⟨Ao82, co82, eo82⟩ := Kd.R_slice HO_138000.out
     (first | subst eo82 | (injection eo82 with f1_ f2_ f3_; have f4_ := f1_.symm; have f5_ := f3_.symm; clear f1_ f2_ f3_; subst f4_; subst f5_))
     refine start_ (n := 7) (S := fun w' => w'.cell? ⟨gb137, 0, none⟩ = some (.slice Ao82 x138000_1.length co82) ∧ w'.cell? ⟨gb137, 1, none⟩ = some (.slice Ao78 y141.length co78)) (ds := []) #[false, false, false, false, false, false, false] (by kernel_rfl) rfl rfl ⟨(blk_cell BK137.out 0).trans rfl, (blk_cell BK137.out 1).trans rfl⟩ (fun hHeld => ?_)
     generalize w80.drew = w81 at HO_138000 HO143 BK129 BK130 BK137 HB hHeld ⊢
     refine pure_ (i := 1) (N := some 88) (v := ?_) (a' := ?_) #[false, true, false, false, false, false, false] rfl rfl (by kernel_rfl) (fun _ _ _ h => h) (Or.inl ⟨by rfl, ?_⟩) ?_ ?_
     rotate_left
     ·intro w'
      go_simp
      with_reducible rfl
     rotate_left
     ·simp only [Act.put, List.setIfInBounds_toArray, List.set_cons_zero, List.set_cons_succ, i64_w, i32_w]
      rfl
     refine take_ (i := 0) (N := some 87) (v := ?_) (a' := ?_) #[true, true, false, false, false, false, false] rfl rfl (by kernel_rfl) (fun _ _ _ h => h) (Or.inl ⟨by rfl, ?_⟩) hHeld ?_ ?_
     rotate_left
     ·rintro w' ⟨s0, s1⟩
      go_simp
      with_reducible rfl
     rotate_left
     ·simp only [Act.put, List.setIfInBounds_toArray, List.set_cons_zero, List.set_cons_succ, i64_w, i32_w]
      rfl
     refine take_ (i := 2) (N := some 89) (v := ?_) (a' := ?_) #[true, true, true, false, false, false, false] rfl rfl (by kernel_rfl) (fun _ _ _ h => h) (Or.inl ⟨by rfl, ?_⟩) hHeld ?_ ?_
     rotate_left
     ·rintro w' ⟨s0, s1⟩
      go_simp
      with_reducible rfl
     rotate_left
     ·simp only [Act.put, List.setIfInBounds_toArray, List.set_cons_zero, List.set_cons_succ, i64_w, i32_w]
      rfl
     refine pure_ (i := 3) (N := some 90) (v := ?_) (a' := ?_) #[true, true, true, true, false, false, false] rfl rfl (by kernel_rfl) (fun _ _ _ h => h) (Or.inl ⟨by rfl, ?_⟩) ?_ ?_
     rotate_left
     ·intro w'
      go_simp
      with_reducible rfl
     rotate_left
     ·simp only [Act.put, List.setIfInBounds_toArray, List.set_cons_zero, List.set_cons_succ, i64_w, i32_w]
      rfl
     refine pure_ (i := 4) (N := some 91) (v := ?_) (a' := ?_) #[true, true, true, true, true, false, false] rfl rfl (by kernel_rfl) (fun _ _ _ h => h) (Or.inl ⟨by rfl, ?_⟩) ?_ ?_
     rotate_left
     ·intro w'
      go_simp
      with_reducible rfl
     rotate_left
     ·simp only [Act.put, List.setIfInBounds_toArray, List.set_cons_zero, List.set_cons_succ, i64_w, i32_w]
      rfl
     refine one_ (i := 5) (N := none) #[true, true, true, true, true, true, false] rfl rfl (by kernel_rfl) (by decide) (fun K hK => ?_)
     have hs83 : w81.cell? ⟨gb130, 0, none⟩ = some (.slice none 0 0) := (blk_cell BK130.out 0).trans rfl
     have hfs83 := blk_frozen BK130.out 0
     have hns83_0 := NB129_130.out
     have hns83_2 := NB137_130.out
     have hms83_0 := NB130_129.out
     have hms83_2 := NB130_137.out
     have hs84 : w81.cell? ⟨gb130, 1, none⟩ = some (.slice none 0 0) := (blk_cell BK130.out 1).trans rfl
     have hfs84 := blk_frozen BK130.out 1
     have hns84_0 := NB129_130.out
     have hns84_2 := NB137_130.out
     have hms84_0 := NB130_129.out
     have hms84_2 := NB130_137.out
     refine skip_ (w1 := ?_) (by rfl) rfl ?_ ?_
     rotate_left
     ·go_simp
      rfl
     refine hK.out _ _ ⟨((cell_far (p := ⟨gb130, _, none⟩) NB137_130.out _).trans (((cell_far (p := ⟨gb130, _, none⟩) NB137_130.out _).trans (hHeld.1)))), ((cell_far (p := ⟨gb130, _, none⟩) NB137_130.out _).trans (((cell_far (p := ⟨gb130, _, none⟩) NB137_130.out _).trans (hHeld.2))))⟩ (fun hHeld => ?_)
     clear hK K
     refine pure_ (i := 6) (N := some 5) (v := ?_) (a' := ?_) #[true, true, true, true, true, true, true] rfl rfl (by kernel_rfl) (fun _ _ _ h => h) (Or.inl ⟨by rfl, ?_⟩) ?_ ?_
     rotate_left
     ·intro w'
      go_simp
      with_reducible rfl
     rotate_left
     ·simp only [Act.put, List.setIfInBounds_toArray, List.set_cons_zero, List.set_cons_succ, i64_w, i32_w]
      rfl
     refine done_ (by kernel_rfl) ?_
     try go_wp2
     refine bodyPost_ret (results_ct rfl _ _ gb130 34 #[.slice Ao82 x138000_1.length co82, .slice Ao78 y141.length co78] (0, 0) _ rfl (by (with_reducible repeat (first | refine blk_drewN ?_ _ | refine blk_drew ?_ | refine blk_alloc ?_ _)); refine blk_put (cs := #[.slice Ao82 x138000_1.length co82, .slice none 0 0]) ?_ 1 _ rfl; (with_reducible repeat (first | refine blk_drewN ?_ _ | refine blk_drew ?_ | refine blk_alloc ?_ _)); refine blk_put (cs := #[.slice none 0 0, .slice none 0 0]) ?_ 0 _ rfl; (with_reducible repeat (first | refine blk_drewN ?_ _ | refine blk_drew ?_ | refine blk_alloc ?_ _)); exact BK130.out) Try.underlying34 rfl (by kernel_rfl)) rfl ?_
     exact ⟨_, _, by first | rfl | (simp [errW_none, errW_some] <;> rfl) | (simp [*, errW_none, errW_some] <;> rfl), by (with_reducible repeat (first | apply Kd.R_alloc | apply Kd.R_drewN | apply Kd.R_drew)); exact Kd.R_mono (Kd.R_far (p := ⟨gb130, 1, none⟩) (Kd.R_far (p := ⟨gb130, 0, none⟩) (Kd.R_types HO_138000.out BK130.out (by decide)) (fun _ hk => hk.2) (.slice Ao82 x138000_1.length co82)) (fun _ hk => hk.2) (.slice Ao78 y141.length co78)) (fun _ hk => trivial), by (with_reducible repeat (first | apply Kd.S_alloc | apply Kd.S_drewN | apply Kd.S_drew)); exact Kd.S_mono (Kd.S_far (p := ⟨gb130, 1, none⟩) (Kd.S_far (p := ⟨gb130, 0, none⟩) (Kd.S_types HO143.out BK130.out (by decide)) (fun _ hk => hk.2) (.slice Ao82 x138000_1.length co82)) (fun _ hk => hk.2) (.slice Ao78 y141.length co78)) (fun _ hk => hk.1), by repeat (first | (with_reducible first | exact HB.out | apply below_alloc | apply pw_below_drewN | apply below_drew1 | refine below_set ?_ GE129.out | refine below_set ?_ GE130.out | refine below_set ?_ GE137.out) | exact HB.out)⟩
    ·rw [if_neg c69] at H
     exact absurd H (by simp)

end Go.Proofs.Ytfijlemaiiobaaa.F
