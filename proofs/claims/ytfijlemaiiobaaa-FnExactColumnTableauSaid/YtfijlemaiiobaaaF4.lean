/- For each Go function named below: the plain Lean function that it computes, and that its call returns just that; conditions: those that each theorem names. -/
import Derived.RangeFuncNested
import Derived.RangeFuncBound
import Derived.RangeFuncCalls
import Derived.RangeFuncLeaves
import Derived.RangeFuncFrom
import Derived.Shelf.RegionOpen
import Derived.OwnWalkIn
import Derived.TacticsInMore
import Derived.LoopNIn
import Derived.LoopIn
import Derived.Sort.BigQuietIn
import Derived.IntWalk
import Derived.Test.YtfijlemaiiobaaaF0
import Derived.Test.YtfijlemaiiobaaaF2
import Derived.Test.YtfijlemaiiobaaaF3
namespace Go.Proofs.Ytfijlemaiiobaaa.F
open Go.RowKit Go.Proofs.YtfijlemaiiobaaaW.PrintWords Go.Proofs.YtfijlemaiiobaaaW.PrintLast Go.Proofs.YtfijlemaiiobaaaW.PrintMore
attribute [local go_sem] max2_int min2_int max_two min_two max_three min_three max_four min_four   -- for this text's walks alone
set_option linter.unusedVariables false
set_option linter.unusedSimpArgs false

/-! ### spec_ColumnTableau: function 37 -/
def spec_ColumnTableau.l0 : Nat → List Int → Int → List Int → List (List Int) → Option (List Int × (List (List Int)) × Bool)
 | 0, _, _, _, _ => none
 | k + 1, x0, x5, x188000, x188001 => if x5 ≥ 0 then ((spec_IsWord.f k x0).bind fun t188 => (if t188 = true then (if 0 ≤ x5 then (if x5 < (x0.length : Int) then ((spec_l17Column.f k x188000 x188001 (rd x0 x5)).bind fun bt190 => (spec_ColumnTableau.l0 k x0 (wrap64 (x5 - 1)) bt190.1 bt190.2)) else (none)) else (none)) else ((spec_IsWord.f k x0).bind fun t196 => (some (x188000, x188001, t196))))) else ((spec_IsWord.f k x0).bind fun t197 => (some (x188000, x188001, t197)))
def spec_ColumnTableau.f (k : Nat) (l0 : List Int) : Option (List Int × (List (List Int)) × Bool) := spec_ColumnTableau.l0 k l0 (wrap64 ((l0.length : Int) - 1)) ([] : List Int) ([] : List (List Int))
theorem spec_ColumnTableau.mono_l : ∀ k, (∀ y0 y1 y2 y3, LeO (spec_ColumnTableau.l0 k y0 y1 y2 y3) (spec_ColumnTableau.l0 (k + 1) y0 y1 y2 y3))
 | 0 => fun _ _ _ _ r h => by simp [spec_ColumnTableau.l0] at h
 | k + 1 => by
  have ih0 := spec_ColumnTableau.mono_l k
  ·intro y0 y1 y2 y3
   unfold spec_ColumnTableau.l0
   repeat' first
   | (with_reducible exact ih0 _ _ _ _)
   | (with_reducible exact spec_IsWord.mono _ _)
   | (with_reducible exact spec_l17Column.mono _ _ _ _)
   | (with_reducible exact LeO.refl _)
   | (with_reducible exact LeO.none _)
   | (with_reducible refine LeO.ite ?_ ?_)
   | (with_reducible refine LeO.bind ?_ (fun _ => ?_))
   | exact ih0 _ _ _ _
   | exact spec_IsWord.mono _ _
   | exact spec_l17Column.mono _ _ _ _
   | exact LeO.none _
   | refine LeO.ite ?_ ?_
   | refine LeO.bind ?_ (fun _ => ?_)
theorem spec_ColumnTableau.mono : ∀ a0 k, LeO (spec_ColumnTableau.f k a0) (spec_ColumnTableau.f (k + 1) a0) := by
 intro a0 k
 have ih0 := spec_ColumnTableau.mono_l k
 unfold spec_ColumnTableau.f
 repeat' first
   | (with_reducible exact ih0 _ _ _ _)
   | (with_reducible exact spec_IsWord.mono _ _)
   | (with_reducible exact spec_l17Column.mono _ _ _ _)
   | (with_reducible exact LeO.refl _)
   | (with_reducible exact LeO.none _)
   | (with_reducible refine LeO.ite ?_ ?_)
   | (with_reducible refine LeO.bind ?_ (fun _ => ?_))
   | exact ih0 _ _ _ _
   | exact spec_IsWord.mono _ _
   | exact spec_l17Column.mono _ _ _ _
   | exact LeO.none _
   | refine LeO.ite ?_ ?_
   | refine LeO.bind ?_ (fun _ => ?_)
set_option maxHeartbeats 8000000 in
set_option maxRecDepth 100000 in
theorem spec_ColumnTableau.calls (k : Nat) (A0 : Option Addr) (c0 : Nat) (l0 : List Int) (r1 : List Int) (r2 : List (List Int)) (r3 : Bool) (w : World) (hr0 : Kd.C (Kd.int .i64) w A0 l0.length l0) (hc0 : l0.length ≤ c0) (h : spec_ColumnTableau.f k l0 = some (r1, r2, r3)) :
  Calls Try.prog 37 #[.slice A0 l0.length c0] w fun e w' => ∃ v0_ v1_ : Value, e = .returned (.tuple #[.agg #[v0_, v1_], .bool r3]) ∧ Kd.R (Kd.int .i64) 3 w' w.heap.size (fun _ => True) v0_ r1 ∧ Kd.S (Kd.slice 3 (Kd.int .i64)) 24 w' w.heap.size (fun k_ => some k_ ≠ (v0_ : Value).ownBlock) v1_ r2 ∧ Below w.heap.size w w' := by
 have hu34 := Try.underlying34
 have HR0 := Aside0.mk hr0
 have HC0 := Aside0.mk hc0
 clear hr0 hc0
 have HB := Aside0.mk (Below.refl w.heap.size w)
 have H : (spec_ColumnTableau.l0 k l0 (wrap64 ((l0.length : Int) - 1)) ([] : List Int) ([] : List (List Int))) = some (r1, r2, r3) := h
 clear h
 have H' := Aside0.mk H
 clear H
 go_enter Try.func37, Try.ntmps37
 go_wp2_with (first | ((with_reducible refine gate_dst (N := 2) rfl ?_); refine zX (N := 2) (cs := #[.slice none 0 0, .slice none 0 0]) (t := 34) ?_; intro gb186 hg w2 hbox hb; have n0_ := Aside0.mk (below_step (by repeat (first | (with_reducible first | exact HB.out | apply below_alloc | apply pw_below_drewN | apply below_drew1) | exact HB.out)) hb); have n1_ := Aside0.mk (hbox); have n2_ := Aside0.mk ((by rw [hg]; exact (below_size (by repeat (first | (with_reducible first | exact HB.out | apply below_alloc | apply pw_below_drewN | apply below_drew1) | exact HB.out))) : w.heap.size ≤ gb186)); have n3_ := Aside0.mk ((by rw [hg]; exact (below_size (by repeat (first | (with_reducible first | exact HB.out | apply below_alloc | apply pw_below_drewN | apply below_drew1) | exact HB.out))) : w.heap.size ≤ gb186)); clear HB; have HB := n0_; have BK186 := n1_; have GW186 := n2_; have GE186 := n3_; clear n0_ n1_ n2_ n3_; clear hb hbox hg) | ((with_reducible refine gate_dst (N := 4) rfl ?_); refine zX (N := 4) (cs := #[.slice none 0 0, .slice none 0 0]) (t := 34) ?_; intro gb187 hg w3 hbox hb; have n0_ := Aside0.mk (blk_below (g := gb186) (o := .cells #[.slice none 0 0, .slice none 0 0] 34 (0, 0)) (by (with_reducible repeat (first | refine blk_drewN ?_ _ | refine blk_drew ?_ | refine blk_alloc ?_ _)); exact BK186.out) hb); have n1_ := Aside0.mk (below_step (by repeat (first | (with_reducible first | exact HB.out | apply below_alloc | apply pw_below_drewN | apply below_drew1 | refine below_set ?_ GE186.out) | exact HB.out)) hb); have n2_ := Aside0.mk (hbox); have n3_ := Aside0.mk ((by rw [hg]; exact (below_size (by repeat (first | (with_reducible first | exact HB.out | apply below_alloc | apply pw_below_drewN | apply below_drew1 | refine below_set ?_ GE186.out) | exact HB.out))) : w.heap.size ≤ gb187)); have n4_ := Aside0.mk ((by rw [hg]; exact (below_size (by repeat (first | (with_reducible first | exact HB.out | apply below_alloc | apply pw_below_drewN | apply below_drew1 | refine below_set ?_ GE186.out) | exact HB.out))) : w.heap.size ≤ gb187)); have n5_ := Aside0.mk ((by rw [hg]; exact Nat.ne_of_lt (blk_lt (g := gb186) (o := .cells #[.slice none 0 0, .slice none 0 0] 34 (0, 0)) (by (with_reducible repeat (first | refine blk_drewN ?_ _ | refine blk_drew ?_ | refine blk_alloc ?_ _)); exact BK186.out)) : gb186 ≠ gb187)); have n6_ := Aside0.mk ((by rw [hg]; exact Nat.ne_of_gt (blk_lt (g := gb186) (o := .cells #[.slice none 0 0, .slice none 0 0] 34 (0, 0)) (by (with_reducible repeat (first | refine blk_drewN ?_ _ | refine blk_drew ?_ | refine blk_alloc ?_ _)); exact BK186.out)) : gb187 ≠ gb186)); clear BK186; clear HB; have BK186 := n0_; have HB := n1_; have BK187 := n2_; have GW187 := n3_; have GE187 := n4_; have NB186_187 := n5_; have NB187_186 := n6_; clear n0_ n1_ n2_ n3_ n4_ n5_ n6_; clear hb hbox hg; have hnb4 := NB187_186.out; have hnc4 := NB186_187.out; have hcz5_0 : w3.cell? ⟨gb187, 0, none⟩ = some (.slice none 0 0) := (blk_cell BK187.out 0).trans rfl; have hcz5_1 : w3.cell? ⟨gb187, 1, none⟩ = some (.slice none 0 0) := (blk_cell BK187.out 1).trans rfl; have hfz5_0 := blk_frozen BK187.out 0; have hfz5_1 := blk_frozen BK187.out 1))
 go_loopg [5] k (fun kq v5 w' => ∃ (x5_1 : Int) (x188000_1 : List Int) (x188001_1 : List (List Int)) (u188000 : Value) (u188001 : Value), v5 = .int .i64 x5_1 ∧ Aside0 (spec_ColumnTableau.l0 kq l0 x5_1 x188000_1 x188001_1 = some (r1, r2, r3)) ∧ Aside0 (kq ≤ k) ∧ Aside0 (Kd.R (Kd.int .i64) 3 w' w.heap.size (fun _ => True) u188000 x188000_1) ∧ Aside0 (Kd.S (Kd.slice 3 (Kd.int .i64)) 24 w' w.heap.size (fun k_ => some k_ ≠ (u188000 : Value).ownBlock) u188001 x188001_1) ∧ Aside0 (w'.heap[gb186]? = some (.cells #[(.slice none 0 0), (.slice none 0 0)] 34 (0, 0))) ∧ Aside0 (w'.heap[gb187]? = some (.cells #[u188000, u188001] 34 (0, 0))) ∧ Aside0 (Below w.heap.size w w'))
 case atStart => exact ⟨(wrap64 ((l0.length : Int) - 1)), (([] : List Int)), (([] : List (List Int))), (.slice none 0 0), (.slice none 0 0), (by first | rfl | (simp; done) | (simp [*]; done)), H', ⟨Nat.le_refl _⟩, ⟨by first | exact Kd.R_nil _ _ _ _ _ | exact Kd.N_nil _ _ _ _ _ | exact Kd.V_nil _ _ _ _ _ | exact Kd.Q_nil _ _ _ _ _ | exact Kd.S_nil _ _ _ _ _⟩, ⟨by first | exact Kd.S_nil _ _ _ _ _ | exact Kd.N_nil _ _ _ _ _ | exact Kd.V_nil _ _ _ _ _ | exact Kd.Q_nil _ _ _ _ _ | exact Kd.R_nil _ _ _ _ _⟩, ⟨by (with_reducible repeat (first | refine blk_drewN ?_ _ | refine blk_drew ?_ | refine blk_alloc ?_ _)); refine blk_far ?_ NB186_187.out _; (with_reducible repeat (first | refine blk_drewN ?_ _ | refine blk_drew ?_ | refine blk_alloc ?_ _)); refine blk_far ?_ NB186_187.out _; (with_reducible repeat (first | refine blk_drewN ?_ _ | refine blk_drew ?_ | refine blk_alloc ?_ _)); exact BK186.out⟩, ⟨by (with_reducible repeat (first | refine blk_drewN ?_ _ | refine blk_drew ?_ | refine blk_alloc ?_ _)); refine blk_put (cs := #[.slice none 0 0, .slice none 0 0]) ?_ 1 _ rfl; (with_reducible repeat (first | refine blk_drewN ?_ _ | refine blk_drew ?_ | refine blk_alloc ?_ _)); refine blk_put (cs := #[.slice none 0 0, .slice none 0 0]) ?_ 0 _ rfl; (with_reducible repeat (first | refine blk_drewN ?_ _ | refine blk_drew ?_ | refine blk_alloc ?_ _)); exact BK187.out⟩, ⟨by repeat (first | (with_reducible first | exact HB.out | apply below_alloc | apply pw_below_drewN | apply below_drew1 | refine below_set ?_ GE186.out | refine below_set ?_ GE187.out) | exact HB.out)⟩⟩
 case round =>
  clear H'
  try clear p2
  try clear c3
  try clear c4
  try clear hcz5_0
  try clear hcz5_1
  try clear hfz5_0
  try clear hfz5_1
  obtain ⟨x5_1, x188000_1, x188001_1, u188000, u188001, rfl, HA, HK1, HO_188000, HO_188001, BK186, BK187, HB⟩ := hrel
  cases gk with
  | zero => exact absurd HA.out (by simp [spec_ColumnTableau.l0])
  | succ k1 =>
   have H := HA.out
   clear HA
   simp only [spec_ColumnTableau.l0] at H
   by_cases c6 : x5_1 ≥ 0
   ·rw [if_pos c6] at H
    have c6b0 : decide (0 ≤ x5_1) = true := decide_eq_true c6
    clear c6
    replace H := Option.bind_eq_some_iff.mp H
    obtain ⟨t188, A70, H⟩ := H
    replace H : (if t188 = true then (if 0 ≤ x5_1 then (if x5_1 < (l0.length : Int) then ((spec_l17Column.f k1 x188000_1 x188001_1 (rd l0 x5_1)).bind fun bt190 => (spec_ColumnTableau.l0 k1 l0 (wrap64 (x5_1 - 1)) bt190.1 bt190.2)) else (none)) else (none)) else ((spec_IsWord.f k1 l0).bind fun t196 => (some (x188000_1, x188001_1, t196)))) = some (r1, r2, r3) := H
    have A7 := Aside0.mk A70
    clear A70
    by_cases c8 : t188 = true
    ·subst c8
     have H1 : (if 0 ≤ x5_1 then (if x5_1 < (l0.length : Int) then ((spec_l17Column.f k1 x188000_1 x188001_1 (rd l0 x5_1)).bind fun bt190 => (spec_ColumnTableau.l0 k1 l0 (wrap64 (x5_1 - 1)) bt190.1 bt190.2)) else (none)) else (none)) = some (r1, r2, r3) := by rw [if_pos rfl] at H; exact H
     clear H
     have H := H1
     clear H1
     by_cases c9 : 0 ≤ x5_1
     ·rw [if_pos c9] at H
      have c9b0 : decide (0 ≤ x5_1) = true := decide_eq_true c9
      clear c9
      by_cases c10 : x5_1 < (l0.length : Int)
      ·rw [if_pos c10] at H
       have c10b0 : decide (x5_1 < (l0.length : Int)) = true := decide_eq_true c10
       clear c10
       replace H := Option.bind_eq_some_iff.mp H
       obtain ⟨⟨t190, t193⟩, A110, H⟩ := H
       replace H : (spec_ColumnTableau.l0 k1 l0 (wrap64 (x5_1 - 1)) t190 t193) = some (r1, r2, r3) := H
       have A11 := Aside0.mk A110
       clear A110
       have H' := Aside0.mk H
       clear H
       try go_wp2_with (first | (go_at_call 48; (with_reducible refine (spec_IsWord.calls k1 _ _ l0 true _ ?side1 ?side2 A7.out).mono ?_); (case side1 => repeat (first | exact (Kd.C_below HR0.out HB.out) | (with_reducible refine Kd.C_alloc ?_ _) | (with_reducible refine Kd.C_drewN ?_ _) | (with_reducible refine Kd.C_drew ?_))); (case side2 => exact HC0.out); rintro e w' ⟨rfl, ⟨nd, rfl⟩⟩; (try (rw [drewN_self wr]; generalize hq_ : World.drewN wr _ = wr; have n0_ : Aside0 (Kd.R (Kd.int .i64) 3 wr w.heap.size (fun _ => True) u188000 x188000_1) := ⟨by rw [← hq_]; exact (by (with_reducible repeat (first | apply Kd.R_alloc | apply Kd.R_drewN | apply Kd.R_drew)); exact HO_188000.out)⟩; have n1_ : Aside0 (Kd.S (Kd.slice 3 (Kd.int .i64)) 24 wr w.heap.size (fun k_ => some k_ ≠ (u188000 : Value).ownBlock) u188001 x188001_1) := ⟨by rw [← hq_]; exact (by (with_reducible repeat (first | apply Kd.S_alloc | apply Kd.S_drewN | apply Kd.S_drew)); exact HO_188001.out)⟩; have n2_ : Aside0 (wr.heap[gb186]? = some (.cells #[.slice none 0 0, .slice none 0 0] 34 (0, 0))) := ⟨by rw [← hq_]; exact (by (with_reducible repeat (first | refine blk_drewN ?_ _ | refine blk_drew ?_ | refine blk_alloc ?_ _)); exact BK186.out)⟩; have n3_ : Aside0 (wr.heap[gb187]? = some (.cells #[u188000, u188001] 34 (0, 0))) := ⟨by rw [← hq_]; exact (by (with_reducible repeat (first | refine blk_drewN ?_ _ | refine blk_drew ?_ | refine blk_alloc ?_ _)); exact BK187.out)⟩; have n4_ : Aside0 (Below w.heap.size w wr) := ⟨by rw [← hq_]; exact (by repeat (first | (with_reducible first | exact HB.out | apply below_alloc | apply pw_below_drewN | apply below_drew1 | refine below_set ?_ GE186.out | refine below_set ?_ GE187.out) | exact HB.out))⟩; clear HO_188000 HO_188001 BK186 BK187 HB hq_; have HO_188000 := n0_; have HO_188001 := n1_; have BK186 := n2_; have BK187 := n3_; have HB := n4_; clear n0_ n1_ n2_ n3_ n4_))))
       have n0_ := Aside0.mk (Kd.R_drew HO_188000.out)
       have n1_ := Aside0.mk (Kd.S_drew HO_188001.out)
       have n2_ := Aside0.mk (blk_drew BK186.out)
       have n3_ := Aside0.mk (blk_drew BK187.out)
       have n4_ := Aside0.mk (below_drew1 HB.out)
       clear HO_188000
       clear HO_188001
       clear BK186
       clear BK187
       clear HB
       have HO_188000 := n0_
       have HO_188001 := n1_
       have BK186 := n2_
       have BK187 := n3_
       have HB := n4_
       clear n0_ n1_ n2_ n3_ n4_
       have p189 : 0 ≤ (x5_1 : Int) := of_decide_eq_true (by first | (with_reducible assumption) | assumption)
       have q189 : x5_1 < (l0.length : Int) := of_decide_eq_true (by first | (with_reducible assumption) | assumption)
       obtain ⟨ad189, e189, hx189_0⟩ := Kd.at_int HR0.out x5_1 p189 q189
       have hw189_0 := hx189_0
       cases e189
       replace hx189_0 := (HB.out.cell (World.block_lt_of_cell? w _ hx189_0)).trans hx189_0
       replace p189 := eq_true p189
       replace q189 := eq_true q189
       obtain ⟨Ao13, co13, eo13⟩ := Kd.R_slice HO_188000.out
       (first | subst eo13 | (injection eo13 with f1_ f2_ f3_; have f4_ := f1_.symm; have f5_ := f3_.symm; clear f1_ f2_ f3_; subst f4_; subst f5_))
       obtain ⟨Ao14, co14, eo14⟩ := Kd.S_slice HO_188001.out
       (first | subst eo14 | (injection eo14 with f1_ f2_ f3_; have f4_ := f1_.symm; have f5_ := f3_.symm; clear f1_ f2_ f3_; subst f4_; subst f5_))
       refine start_ (n := 7) (S := fun w' => w'.cell? ⟨gb187, 0, none⟩ = some (.slice Ao13 x188000_1.length co13) ∧ w'.cell? ⟨gb187, 1, none⟩ = some (.slice Ao14 x188001_1.length co14) ∧ w'.cell? (ad189.add (x5_1).toNat) = some (.int .i64 (rd l0 x5_1))) (ds := [6]) #[false, false, false, false, false, false, false] (by kernel_rfl) rfl rfl ⟨(blk_cell BK187.out 0).trans rfl, (blk_cell BK187.out 1).trans rfl, ((HB.out.cell (World.block_lt_of_cell? w _ hw189_0)).trans hw189_0)⟩ (fun hHeld => ?_)
       generalize wr.drew = w12 at HO_188000 HO_188001 BK186 BK187 HB hx189_0 hHeld ⊢
       refine pure_ (i := 1) (N := some 19) (v := ?_) (a' := ?_) #[false, true, false, false, false, false, false] rfl rfl (by kernel_rfl) (fun _ _ _ h => h) (Or.inl ⟨by rfl, ?_⟩) ?_ ?_
       rotate_left
       ·intro w'
        go_simp
        with_reducible rfl
       rotate_left
       ·simp only [Act.put, List.setIfInBounds_toArray, List.set_cons_zero, List.set_cons_succ, i64_w, i32_w]
        rfl
       refine pure_ (i := 2) (N := some 20) (v := ?_) (a' := ?_) #[false, true, true, false, false, false, false] rfl rfl (by kernel_rfl) (fun _ _ _ h => h) (Or.inl ⟨by rfl, ?_⟩) ?_ ?_
       rotate_left
       ·intro w'
        go_simp
        with_reducible rfl
       rotate_left
       ·simp only [Act.put, List.setIfInBounds_toArray, List.set_cons_zero, List.set_cons_succ, i64_w, i32_w]
        rfl
       refine pure_ (i := 3) (N := some 21) (v := ?_) (a' := ?_) #[false, true, true, true, false, false, false] rfl rfl (by kernel_rfl) (fun _ _ _ h => h) (Or.inl ⟨by rfl, ?_⟩) ?_ ?_
       rotate_left
       ·intro w'
        go_simp
        with_reducible rfl
       rotate_left
       ·simp only [Act.put, List.setIfInBounds_toArray, List.set_cons_zero, List.set_cons_succ, i64_w, i32_w]
        rfl
       refine take_ (i := 0) (N := some 18) (v := ?_) (a' := ?_) #[true, true, true, true, false, false, false] rfl rfl (by kernel_rfl) (fun _ _ _ h => h) (Or.inl ⟨by rfl, ?_⟩) hHeld ?_ ?_
       rotate_left
       ·rintro w' ⟨s0, s1, s2⟩
        go_simp
        with_reducible rfl
       rotate_left
       ·simp only [Act.put, List.setIfInBounds_toArray, List.set_cons_zero, List.set_cons_succ, i64_w, i32_w]
        rfl
       refine take_ (i := 4) (N := some 22) (v := ?_) (a' := ?_) #[true, true, true, true, true, false, false] rfl rfl (by kernel_rfl) (fun _ _ _ h => h) (Or.inl ⟨by rfl, ?_⟩) hHeld ?_ ?_
       rotate_left
       ·rintro w' ⟨s0, s1, s2⟩
        go_simp
        with_reducible rfl
       rotate_left
       ·simp only [Act.put, List.setIfInBounds_toArray, List.set_cons_zero, List.set_cons_succ, i64_w, i32_w]
        rfl
       refine one_ (i := 5) (N := some 23) #[true, true, true, true, true, true, false] rfl rfl (by kernel_rfl) (by decide) (fun K hK => ?_)
       refine zC Try.func63 #[.agg #[.slice Ao13 x188000_1.length co13, .slice Ao14 x188001_1.length co14], .int .i64 (rd l0 x5_1)] ?_
       with_reducible refine (spec_l17Column.calls k1 _ _ x188000_1 _ _ x188001_1 (rd l0 x5_1) t190 t193 _ ?side1 ?side2 ?side3 ?side4 A11.out).mono ?_
       (case side1 => repeat (first | exact (Kd.R_reads' HO_188000.out).2.2 | (with_reducible refine Kd.C_alloc ?_ _) | (with_reducible refine Kd.C_drewN ?_ _) | (with_reducible refine Kd.C_drew ?_)))
       (case side2 => exact (Kd.R_reads' HO_188000.out).2.1)
       (case side3 => repeat (first | exact (Kd.S_reads' HO_188001.out).2.2 | (with_reducible refine Kd.C_alloc ?_ _) | (with_reducible refine Kd.C_drewN ?_ _) | (with_reducible refine Kd.C_drew ?_)))
       (case side4 => exact (Kd.S_reads' HO_188001.out).2.1)
       rintro e w15 ⟨v191, v194, rfl, ho0, ho1, hb⟩
       refine ⟨_, rfl, ?_⟩
       have n0_ := Aside0.mk (Kd.R_elder' (by (with_reducible repeat (first | apply Kd.R_alloc | apply Kd.R_drewN | apply Kd.R_drew)); exact HO_188000.out) (Kd.R_base ho0) hb)
       have n1_ := Aside0.mk (Kd.S_mono (Kd.S_told (Kd.S_told (Kd.S_old (by (with_reducible repeat (first | apply Kd.S_alloc | apply Kd.S_drewN | apply Kd.S_drew)); exact HO_188001.out) hb) (Kd.R_base ho0)) (Kd.S_base ho1)) (fun _ h_ => h_.1))
       have n2_ := Aside0.mk (Kd.R_lower (Kd.R_new' ho0 (Kd.R_lt (by (with_reducible repeat (first | apply Kd.R_alloc | apply Kd.R_drewN | apply Kd.R_drew)); exact HO_188000.out))) (below_size (by repeat (first | (with_reducible first | exact HB.out | apply below_alloc | apply pw_below_drewN | apply below_drew1 | refine below_set ?_ GE186.out | refine below_set ?_ GE187.out) | exact HB.out))))
       have n3_ := Aside0.mk (Kd.S_lower (Kd.S_new' (Kd.S_new' ho1 (Kd.R_lt (by (with_reducible repeat (first | apply Kd.R_alloc | apply Kd.R_drewN | apply Kd.R_drew)); exact HO_188000.out))) (Kd.S_lt (by (with_reducible repeat (first | apply Kd.S_alloc | apply Kd.S_drewN | apply Kd.S_drew)); exact HO_188001.out))) (below_size (by repeat (first | (with_reducible first | exact HB.out | apply below_alloc | apply pw_below_drewN | apply below_drew1 | refine below_set ?_ GE186.out | refine below_set ?_ GE187.out) | exact HB.out))))
       have n4_ := Aside0.mk (blk_below (g := gb186) (o := .cells #[.slice none 0 0, .slice none 0 0] 34 (0, 0)) (by (with_reducible repeat (first | refine blk_drewN ?_ _ | refine blk_drew ?_ | refine blk_alloc ?_ _)); exact BK186.out) hb)
       have n5_ := Aside0.mk (blk_below (g := gb187) (o := .cells #[.slice Ao13 x188000_1.length co13, .slice Ao14 x188001_1.length co14] 34 (0, 0)) (by (with_reducible repeat (first | refine blk_drewN ?_ _ | refine blk_drew ?_ | refine blk_alloc ?_ _)); exact BK187.out) hb)
       have n6_ := Aside0.mk (below_step (by repeat (first | (with_reducible first | exact HB.out | apply below_alloc | apply pw_below_drewN | apply below_drew1 | refine below_set ?_ GE186.out | refine below_set ?_ GE187.out) | exact HB.out)) hb)
       clear HO_188000
       clear HO_188001
       clear BK186
       clear BK187
       clear HB
       have HO_188000 := n0_
       have HO_188001 := n1_
       have HO192 := n2_
       have HO195 := n3_
       have BK186 := n4_
       have BK187 := n5_
       have HB := n6_
       clear n0_ n1_ n2_ n3_ n4_ n5_ n6_
       (try clear hb)
       (try clear hb2)
       (try clear hk)
       (try clear hi)
       (try clear ho0)
       (try clear ho1)
       obtain ⟨Ao16, co16, eo16⟩ := Kd.R_slice HO192.out
       (first | subst eo16 | (injection eo16 with f1_ f2_ f3_; have f4_ := f1_.symm; have f5_ := f3_.symm; clear f1_ f2_ f3_; subst f4_; subst f5_))
       obtain ⟨Ao18, co18, eo18⟩ := Kd.S_slice HO195.out
       (first | subst eo18 | (injection eo18 with f1_ f2_ f3_; have f4_ := f1_.symm; have f5_ := f3_.symm; clear f1_ f2_ f3_; subst f4_; subst f5_))
       refine hK.out _ _ ⟨(blk_cell BK187.out 0).trans rfl, (blk_cell BK187.out 1).trans rfl, ((HB.out.cell (World.block_lt_of_cell? w _ hw189_0)).trans hw189_0)⟩ (fun hHeld => ?_)
       clear hK K
       refine norm_ (a' := ?_) ?_ ?_
       rotate_left
       ·show Act.put _ (some 23) _ = _
        simp only [Act.put, List.setIfInBounds_toArray, List.set_cons_zero, List.set_cons_succ, i64_w, i32_w]
        rfl
       refine last_ (i := 6) (N := none) #[true, true, true, true, true, true, true] rfl rfl (by kernel_rfl) (by decide) (fun K hK => ?_)
       have hs17 : w15.cell? ⟨gb187, 0, none⟩ = some (.slice Ao13 x188000_1.length co13) := (blk_cell BK187.out 0).trans rfl
       have hfs17 := blk_frozen BK187.out 0
       have hns17_0 := NB186_187.out
       have hms17_0 := NB187_186.out
       have hs19 : w15.cell? ⟨gb187, 1, none⟩ = some (.slice Ao14 x188001_1.length co14) := (blk_cell BK187.out 1).trans rfl
       have hfs19 := blk_frozen BK187.out 1
       have hns19_0 := NB186_187.out
       have hms19_0 := NB187_186.out
       refine skip_ (w1 := ?_) (by rfl) rfl ?_ ?_
       rotate_left
       ·go_simp
        rfl
       refine hK.out _ _ ?_
       clear hK K
       refine done_ (by kernel_rfl) ?_
       try go_wp2
       go_roundg k1
       case measure => have := HK1.out; omega
       case rel => exact ⟨(wrap64 (x5_1 - 1)), (t190), (t193), (.slice Ao16 t190.length co16), (.slice Ao18 t193.length co18), (by first | rfl | (simp; done) | (simp [*]; done)), H', ⟨by have := HK1.out; omega⟩, ⟨by (with_reducible repeat (first | apply Kd.R_alloc | apply Kd.R_drewN | apply Kd.R_drew)); exact Kd.R_mono (Kd.R_far (p := ⟨gb187, 1, none⟩) (Kd.R_far (p := ⟨gb187, 0, none⟩) (Kd.R_types HO192.out BK187.out (by decide)) (fun _ hk => hk.2) (.slice Ao16 t190.length co16)) (fun _ hk => hk.2) (.slice Ao18 t193.length co18)) (fun _ hk => trivial)⟩, ⟨by (with_reducible repeat (first | apply Kd.S_alloc | apply Kd.S_drewN | apply Kd.S_drew)); exact Kd.S_mono (Kd.S_far (p := ⟨gb187, 1, none⟩) (Kd.S_far (p := ⟨gb187, 0, none⟩) (Kd.S_types HO195.out BK187.out (by decide)) (fun _ hk => hk.2) (.slice Ao16 t190.length co16)) (fun _ hk => hk.2) (.slice Ao18 t193.length co18)) (fun _ hk => hk.1.1.1)⟩, ⟨by (with_reducible repeat (first | refine blk_drewN ?_ _ | refine blk_drew ?_ | refine blk_alloc ?_ _)); refine blk_far ?_ NB186_187.out _; (with_reducible repeat (first | refine blk_drewN ?_ _ | refine blk_drew ?_ | refine blk_alloc ?_ _)); refine blk_far ?_ NB186_187.out _; (with_reducible repeat (first | refine blk_drewN ?_ _ | refine blk_drew ?_ | refine blk_alloc ?_ _)); exact BK186.out⟩, ⟨by (with_reducible repeat (first | refine blk_drewN ?_ _ | refine blk_drew ?_ | refine blk_alloc ?_ _)); refine blk_put (cs := #[.slice Ao16 t190.length co16, .slice Ao14 x188001_1.length co14]) ?_ 1 _ rfl; (with_reducible repeat (first | refine blk_drewN ?_ _ | refine blk_drew ?_ | refine blk_alloc ?_ _)); refine blk_put (cs := #[.slice Ao13 x188000_1.length co13, .slice Ao14 x188001_1.length co14]) ?_ 0 _ rfl; (with_reducible repeat (first | refine blk_drewN ?_ _ | refine blk_drew ?_ | refine blk_alloc ?_ _)); exact BK187.out⟩, ⟨by repeat (first | (with_reducible first | exact HB.out | apply below_alloc | apply pw_below_drewN | apply below_drew1 | refine below_set ?_ GE186.out | refine below_set ?_ GE187.out) | exact HB.out)⟩⟩
      ·rw [if_neg c10] at H
       exact absurd H (by simp)
     ·rw [if_neg c9] at H
      exact absurd H (by simp)
    ·replace c8 := Bool.eq_false_iff.mpr c8
     subst c8
     have H1 : ((spec_IsWord.f k1 l0).bind fun t196 => (some (x188000_1, x188001_1, t196))) = some (r1, r2, r3) := by rw [if_neg (show ¬ (false = true) by decide)] at H; exact H
     clear H
     have H := H1
     clear H1
     replace H := Option.bind_eq_some_iff.mp H
     obtain ⟨t196, A200, H⟩ := H
     replace H : (some (x188000_1, x188001_1, t196)) = some (r1, r2, r3) := H
     have A20 := Aside0.mk A200
     clear A200
     simp only [Option.some.injEq, Prod.mk.injEq] at H
     obtain ⟨rfl, rfl, rfl⟩ := H
     try go_wp2_with (first | (go_at_call 48; (with_reducible refine (spec_IsWord.calls k1 _ _ l0 false _ ?side1 ?side2 A7.out).mono ?_); (case side1 => repeat (first | exact (Kd.C_below HR0.out HB.out) | (with_reducible refine Kd.C_alloc ?_ _) | (with_reducible refine Kd.C_drewN ?_ _) | (with_reducible refine Kd.C_drew ?_))); (case side2 => exact HC0.out); rintro e w' ⟨rfl, ⟨nd, rfl⟩⟩; (try (rw [drewN_self wr]; generalize hq_ : World.drewN wr _ = wr; have n0_ : Aside0 (Kd.R (Kd.int .i64) 3 wr w.heap.size (fun _ => True) u188000 x188000_1) := ⟨by rw [← hq_]; exact (by (with_reducible repeat (first | apply Kd.R_alloc | apply Kd.R_drewN | apply Kd.R_drew)); exact HO_188000.out)⟩; have n1_ : Aside0 (Kd.S (Kd.slice 3 (Kd.int .i64)) 24 wr w.heap.size (fun k_ => some k_ ≠ (u188000 : Value).ownBlock) u188001 x188001_1) := ⟨by rw [← hq_]; exact (by (with_reducible repeat (first | apply Kd.S_alloc | apply Kd.S_drewN | apply Kd.S_drew)); exact HO_188001.out)⟩; have n2_ : Aside0 (wr.heap[gb186]? = some (.cells #[.slice none 0 0, .slice none 0 0] 34 (0, 0))) := ⟨by rw [← hq_]; exact (by (with_reducible repeat (first | refine blk_drewN ?_ _ | refine blk_drew ?_ | refine blk_alloc ?_ _)); exact BK186.out)⟩; have n3_ : Aside0 (wr.heap[gb187]? = some (.cells #[u188000, u188001] 34 (0, 0))) := ⟨by rw [← hq_]; exact (by (with_reducible repeat (first | refine blk_drewN ?_ _ | refine blk_drew ?_ | refine blk_alloc ?_ _)); exact BK187.out)⟩; have n4_ : Aside0 (Below w.heap.size w wr) := ⟨by rw [← hq_]; exact (by repeat (first | (with_reducible first | exact HB.out | apply below_alloc | apply pw_below_drewN | apply below_drew1 | refine below_set ?_ GE186.out | refine below_set ?_ GE187.out) | exact HB.out))⟩; clear HO_188000 HO_188001 BK186 BK187 HB hq_; have HO_188000 := n0_; have HO_188001 := n1_; have BK186 := n2_; have BK187 := n3_; have HB := n4_; clear n0_ n1_ n2_ n3_ n4_))))
     have n0_ := Aside0.mk (Kd.R_drew HO_188000.out)
     have n1_ := Aside0.mk (Kd.S_drew HO_188001.out)
     have n2_ := Aside0.mk (blk_drew BK186.out)
     have n3_ := Aside0.mk (blk_drew BK187.out)
     have n4_ := Aside0.mk (below_drew1 HB.out)
     clear HO_188000
     clear HO_188001
     clear BK186
     clear BK187
     clear HB
     have HO_188000 := n0_
     have HO_188001 := n1_
     have BK186 := n2_
     have BK187 := n3_
     have HB := n4_
     clear n0_ n1_ n2_ n3_ n4_
     refine start_ (n := 5) (S := fun w' => w'.cell? ⟨gb187, 0, none⟩ = some (u188000) ∧ w'.cell? ⟨gb187, 1, none⟩ = some (u188001)) (ds := []) #[false, false, false, false, false] (by kernel_rfl) rfl rfl ⟨(blk_cell BK187.out 0).trans rfl, (blk_cell BK187.out 1).trans rfl⟩ (fun hHeld => ?_)
     generalize wr.drew = w21 at HO_188000 HO_188001 BK186 BK187 HB hHeld ⊢
     refine pure_ (i := 1) (N := some 25) (v := ?_) (a' := ?_) #[false, true, false, false, false] rfl rfl (by kernel_rfl) (fun _ _ _ h => h) (Or.inl ⟨by rfl, ?_⟩) ?_ ?_
     rotate_left
     ·intro w'
      go_simp
      with_reducible rfl
     rotate_left
     ·simp only [Act.put, List.setIfInBounds_toArray, List.set_cons_zero, List.set_cons_succ, i64_w, i32_w]
      rfl
     refine take_ (i := 0) (N := some 24) (v := ?_) (a' := ?_) #[true, true, false, false, false] rfl rfl (by kernel_rfl) (fun _ _ _ h => h) (Or.inl ⟨by rfl, ?_⟩) hHeld ?_ ?_
     rotate_left
     ·rintro w' ⟨s0, s1⟩
      go_simp
      with_reducible rfl
     rotate_left
     ·simp only [Act.put, List.setIfInBounds_toArray, List.set_cons_zero, List.set_cons_succ, i64_w, i32_w]
      rfl
     refine one_ (i := 2) (N := some 26) #[true, true, true, false, false] rfl rfl (by kernel_rfl) (by decide) (fun K hK => ?_)
     refine zC Try.func48 #[.slice A0 l0.length c0] ?_
     with_reducible refine (spec_IsWord.calls k1 _ _ l0 t196 _ ?side1 ?side2 A20.out).mono ?_
     (case side1 => repeat (first | exact (Kd.C_below HR0.out HB.out) | (with_reducible refine Kd.C_alloc ?_ _) | (with_reducible refine Kd.C_drewN ?_ _) | (with_reducible refine Kd.C_drew ?_)))
     (case side2 => exact HC0.out)
     rintro e w' ⟨rfl, ⟨nd, rfl⟩⟩
     refine ⟨_, rfl, ?_⟩
     obtain ⟨Ao22, co22, eo22⟩ := Kd.R_slice HO_188000.out
     (first | subst eo22 | (injection eo22 with f1_ f2_ f3_; have f4_ := f1_.symm; have f5_ := f3_.symm; clear f1_ f2_ f3_; subst f4_; subst f5_))
     obtain ⟨Ao24, co24, eo24⟩ := Kd.S_slice HO_188001.out
     (first | subst eo24 | (injection eo24 with f1_ f2_ f3_; have f4_ := f1_.symm; have f5_ := f3_.symm; clear f1_ f2_ f3_; subst f4_; subst f5_))
     refine hK.out _ _ ⟨(blk_cell BK187.out 0).trans rfl, (blk_cell BK187.out 1).trans rfl⟩ (fun hHeld => ?_)
     clear hK K
     refine norm_ (a' := ?_) ?_ ?_
     rotate_left
     ·show Act.put _ (some 26) _ = _
      simp only [Act.put, List.setIfInBounds_toArray, List.set_cons_zero, List.set_cons_succ, i64_w, i32_w]
      rfl
     refine one_ (i := 3) (N := none) #[true, true, true, true, false] rfl rfl (by kernel_rfl) (by decide) (fun K hK => ?_)
     have hs23 : w21.cell? ⟨gb186, 0, none⟩ = some (.slice none 0 0) := (blk_cell BK186.out 0).trans rfl
     have hfs23 := blk_frozen BK186.out 0
     have hns23_1 := NB187_186.out
     have hms23_1 := NB186_187.out
     have hs25 : w21.cell? ⟨gb186, 1, none⟩ = some (.slice none 0 0) := (blk_cell BK186.out 1).trans rfl
     have hfs25 := blk_frozen BK186.out 1
     have hns25_1 := NB187_186.out
     have hms25_1 := NB186_187.out
     refine skip_ (w1 := ?_) (by rfl) rfl ?_ ?_
     rotate_left
     ·go_simp
      rfl
     refine hK.out _ _ ⟨((cell_far (p := ⟨gb186, _, none⟩) NB187_186.out _).trans (((cell_far (p := ⟨gb186, _, none⟩) NB187_186.out _).trans (hHeld.1)))), ((cell_far (p := ⟨gb186, _, none⟩) NB187_186.out _).trans (((cell_far (p := ⟨gb186, _, none⟩) NB187_186.out _).trans (hHeld.2))))⟩ (fun hHeld => ?_)
     clear hK K
     refine pure_ (i := 4) (N := some 3) (v := ?_) (a' := ?_) #[true, true, true, true, true] rfl rfl (by kernel_rfl) (fun _ _ _ h => h) (Or.inl ⟨by rfl, ?_⟩) ?_ ?_
     rotate_left
     ·intro w'
      go_simp
      with_reducible rfl
     rotate_left
     ·simp only [Act.put, List.setIfInBounds_toArray, List.set_cons_zero, List.set_cons_succ, i64_w, i32_w]
      rfl
     refine done_ (by kernel_rfl) ?_
     try go_wp2
     refine bodyPost_ret (results_ct rfl _ _ gb186 34 #[.slice Ao22 x188000_1.length co22, .slice Ao24 x188001_1.length co24] (0, 0) _ rfl (by (with_reducible repeat (first | refine blk_drewN ?_ _ | refine blk_drew ?_ | refine blk_alloc ?_ _)); refine blk_put (cs := #[.slice Ao22 x188000_1.length co22, .slice none 0 0]) ?_ 1 _ rfl; (with_reducible repeat (first | refine blk_drewN ?_ _ | refine blk_drew ?_ | refine blk_alloc ?_ _)); refine blk_put (cs := #[.slice none 0 0, .slice none 0 0]) ?_ 0 _ rfl; (with_reducible repeat (first | refine blk_drewN ?_ _ | refine blk_drew ?_ | refine blk_alloc ?_ _)); exact BK186.out) Try.underlying34 rfl (by kernel_rfl)) rfl ?_
     exact ⟨_, _, by first | rfl | (simp [errW_none, errW_some] <;> rfl) | (simp [*, errW_none, errW_some] <;> rfl), by (with_reducible repeat (first | apply Kd.R_alloc | apply Kd.R_drewN | apply Kd.R_drew)); exact Kd.R_mono (Kd.R_far (p := ⟨gb186, 1, none⟩) (Kd.R_far (p := ⟨gb186, 0, none⟩) (Kd.R_types HO_188000.out BK186.out (by decide)) (fun _ hk => hk.2) (.slice Ao22 x188000_1.length co22)) (fun _ hk => hk.2) (.slice Ao24 x188001_1.length co24)) (fun _ hk => trivial), by (with_reducible repeat (first | apply Kd.S_alloc | apply Kd.S_drewN | apply Kd.S_drew)); exact Kd.S_mono (Kd.S_far (p := ⟨gb186, 1, none⟩) (Kd.S_far (p := ⟨gb186, 0, none⟩) (Kd.S_types HO_188001.out BK186.out (by decide)) (fun _ hk => hk.2) (.slice Ao22 x188000_1.length co22)) (fun _ hk => hk.2) (.slice Ao24 x188001_1.length co24)) (fun _ hk => hk.1), by repeat (first | (with_reducible first | exact HB.out | apply below_alloc | apply pw_below_drewN | apply below_drew1 | refine below_set ?_ GE186.out | refine below_set ?_ GE187.out) | exact HB.out)⟩
   ·rw [if_neg c6] at H
    have c6b0 : decide (0 ≤ x5_1) = false := decide_eq_false c6
    clear c6
    replace H := Option.bind_eq_some_iff.mp H
    obtain ⟨t197, A260, H⟩ := H
    replace H : (some (x188000_1, x188001_1, t197)) = some (r1, r2, r3) := H
    have A26 := Aside0.mk A260
    clear A260
    simp only [Option.some.injEq, Prod.mk.injEq] at H
    obtain ⟨rfl, rfl, rfl⟩ := H
    try go_wp2
    have n0_ := Aside0.mk (Kd.R_drew HO_188000.out)
    have n1_ := Aside0.mk (Kd.S_drew HO_188001.out)
    have n2_ := Aside0.mk (blk_drew BK186.out)
    have n3_ := Aside0.mk (blk_drew BK187.out)
    have n4_ := Aside0.mk (below_drew1 HB.out)
    clear HO_188000
    clear HO_188001
    clear BK186
    clear BK187
    clear HB
    have HO_188000 := n0_
    have HO_188001 := n1_
    have BK186 := n2_
    have BK187 := n3_
    have HB := n4_
    clear n0_ n1_ n2_ n3_ n4_
    refine start_ (n := 5) (S := fun w' => w'.cell? ⟨gb187, 0, none⟩ = some (u188000) ∧ w'.cell? ⟨gb187, 1, none⟩ = some (u188001)) (ds := []) #[false, false, false, false, false] (by kernel_rfl) rfl rfl ⟨(blk_cell BK187.out 0).trans rfl, (blk_cell BK187.out 1).trans rfl⟩ (fun hHeld => ?_)
    generalize wr.drew = w27 at HO_188000 HO_188001 BK186 BK187 HB hHeld ⊢
    refine pure_ (i := 1) (N := some 25) (v := ?_) (a' := ?_) #[false, true, false, false, false] rfl rfl (by kernel_rfl) (fun _ _ _ h => h) (Or.inl ⟨by rfl, ?_⟩) ?_ ?_
    rotate_left
    ·intro w'
     go_simp
     with_reducible rfl
    rotate_left
    ·simp only [Act.put, List.setIfInBounds_toArray, List.set_cons_zero, List.set_cons_succ, i64_w, i32_w]
     rfl
    refine take_ (i := 0) (N := some 24) (v := ?_) (a' := ?_) #[true, true, false, false, false] rfl rfl (by kernel_rfl) (fun _ _ _ h => h) (Or.inl ⟨by rfl, ?_⟩) hHeld ?_ ?_
    rotate_left
    ·rintro w' ⟨s0, s1⟩
     go_simp
     with_reducible rfl
    rotate_left
    ·simp only [Act.put, List.setIfInBounds_toArray, List.set_cons_zero, List.set_cons_succ, i64_w, i32_w]
     rfl
    refine one_ (i := 2) (N := some 26) #[true, true, true, false, false] rfl rfl (by kernel_rfl) (by decide) (fun K hK => ?_)
    refine zC Try.func48 #[.slice A0 l0.length c0] ?_
    with_reducible refine (spec_IsWord.calls k1 _ _ l0 t197 _ ?side1 ?side2 A26.out).mono ?_
    (case side1 => repeat (first | exact (Kd.C_below HR0.out HB.out) | (with_reducible refine Kd.C_alloc ?_ _) | (with_reducible refine Kd.C_drewN ?_ _) | (with_reducible refine Kd.C_drew ?_)))
    (case side2 => exact HC0.out)
    rintro e w' ⟨rfl, ⟨nd, rfl⟩⟩
    refine ⟨_, rfl, ?_⟩
    obtain ⟨Ao28, co28, eo28⟩ := Kd.R_slice HO_188000.out
    (first | subst eo28 | (injection eo28 with f1_ f2_ f3_; have f4_ := f1_.symm; have f5_ := f3_.symm; clear f1_ f2_ f3_; subst f4_; subst f5_))
    obtain ⟨Ao30, co30, eo30⟩ := Kd.S_slice HO_188001.out
    (first | subst eo30 | (injection eo30 with f1_ f2_ f3_; have f4_ := f1_.symm; have f5_ := f3_.symm; clear f1_ f2_ f3_; subst f4_; subst f5_))
    refine hK.out _ _ ⟨(blk_cell BK187.out 0).trans rfl, (blk_cell BK187.out 1).trans rfl⟩ (fun hHeld => ?_)
    clear hK K
    refine norm_ (a' := ?_) ?_ ?_
    rotate_left
    ·show Act.put _ (some 26) _ = _
     simp only [Act.put, List.setIfInBounds_toArray, List.set_cons_zero, List.set_cons_succ, i64_w, i32_w]
     rfl
    refine one_ (i := 3) (N := none) #[true, true, true, true, false] rfl rfl (by kernel_rfl) (by decide) (fun K hK => ?_)
    have hs29 : w27.cell? ⟨gb186, 0, none⟩ = some (.slice none 0 0) := (blk_cell BK186.out 0).trans rfl
    have hfs29 := blk_frozen BK186.out 0
    have hns29_1 := NB187_186.out
    have hms29_1 := NB186_187.out
    have hs31 : w27.cell? ⟨gb186, 1, none⟩ = some (.slice none 0 0) := (blk_cell BK186.out 1).trans rfl
    have hfs31 := blk_frozen BK186.out 1
    have hns31_1 := NB187_186.out
    have hms31_1 := NB186_187.out
    refine skip_ (w1 := ?_) (by rfl) rfl ?_ ?_
    rotate_left
    ·go_simp
     rfl
    refine hK.out _ _ ⟨((cell_far (p := ⟨gb186, _, none⟩) NB187_186.out _).trans (((cell_far (p := ⟨gb186, _, none⟩) NB187_186.out _).trans (hHeld.1)))), ((cell_far (p := ⟨gb186, _, none⟩) NB187_186.out _).trans (((cell_far (p := ⟨gb186, _, none⟩) NB187_186.out _).trans (hHeld.2))))⟩ (fun hHeld => ?_)
    clear hK K
    refine pure_ (i := 4) (N := some 3) (v := ?_) (a' := ?_) #[true, true, true, true, true] rfl rfl (by kernel_rfl) (fun _ _ _ h => h) (Or.inl ⟨by rfl, ?_⟩) ?_ ?_
    rotate_left
    ·intro w'
     go_simp
     with_reducible rfl
    rotate_left
    ·simp only [Act.put, List.setIfInBounds_toArray, List.set_cons_zero, List.set_cons_succ, i64_w, i32_w]
     rfl
    refine done_ (by kernel_rfl) ?_
    try go_wp2
    refine bodyPost_ret (results_ct rfl _ _ gb186 34 #[.slice Ao28 x188000_1.length co28, .slice Ao30 x188001_1.length co30] (0, 0) _ rfl (by (with_reducible repeat (first | refine blk_drewN ?_ _ | refine blk_drew ?_ | refine blk_alloc ?_ _)); refine blk_put (cs := #[.slice Ao28 x188000_1.length co28, .slice none 0 0]) ?_ 1 _ rfl; (with_reducible repeat (first | refine blk_drewN ?_ _ | refine blk_drew ?_ | refine blk_alloc ?_ _)); refine blk_put (cs := #[.slice none 0 0, .slice none 0 0]) ?_ 0 _ rfl; (with_reducible repeat (first | refine blk_drewN ?_ _ | refine blk_drew ?_ | refine blk_alloc ?_ _)); exact BK186.out) Try.underlying34 rfl (by kernel_rfl)) rfl ?_
    exact ⟨_, _, by first | rfl | (simp [errW_none, errW_some] <;> rfl) | (simp [*, errW_none, errW_some] <;> rfl), by (with_reducible repeat (first | apply Kd.R_alloc | apply Kd.R_drewN | apply Kd.R_drew)); exact Kd.R_mono (Kd.R_far (p := ⟨gb186, 1, none⟩) (Kd.R_far (p := ⟨gb186, 0, none⟩) (Kd.R_types HO_188000.out BK186.out (by decide)) (fun _ hk => hk.2) (.slice Ao28 x188000_1.length co28)) (fun _ hk => hk.2) (.slice Ao30 x188001_1.length co30)) (fun _ hk => trivial), by (with_reducible repeat (first | apply Kd.S_alloc | apply Kd.S_drewN | apply Kd.S_drew)); exact Kd.S_mono (Kd.S_far (p := ⟨gb186, 1, none⟩) (Kd.S_far (p := ⟨gb186, 0, none⟩) (Kd.S_types HO_188001.out BK186.out (by decide)) (fun _ hk => hk.2) (.slice Ao28 x188000_1.length co28)) (fun _ hk => hk.2) (.slice Ao30 x188001_1.length co30)) (fun _ hk => hk.1), by repeat (first | (with_reducible first | exact HB.out | apply below_alloc | apply pw_below_drewN | apply below_drew1 | refine below_set ?_ GE186.out | refine below_set ?_ GE187.out) | exact HB.out)⟩

/-! ### impl_within: function 45 -/
def impl_within.f (a0 : Int) (a1 : Int) (a2 : Int) : Option (Bool) := some (decide (a1 ≤ a0 ∧ a0 ≤ a2))
theorem within_any (a b c : Int) (w : World) : Calls Try.prog 45 #[.int .i64 a, .int .i64 b, .int .i64 c] w fun e w' => e = .returned (.bool (decide (b ≤ a ∧ a ≤ c))) ∧ w = w' := by
 by_cases h1 : b ≤ a
 ·go_enter Try.func45, Try.ntmps45
  go_wp2
  go_ret
  exact ⟨by simp [h1], rfl⟩
 ·have h1' : decide (b ≤ a) = false := by simpa using h1
  go_enter Try.func45, Try.ntmps45
  go_wp2
  go_ret
  exact ⟨by simp [h1], rfl⟩
theorem impl_within.calls (a0 : Int) (a1 : Int) (a2 : Int) (r : Bool) (w : World) (h : impl_within.f a0 a1 a2 = some r) : Calls Try.prog 45 #[.int .i64 a0, .int .i64 a1, .int .i64 a2] w fun e w' => e = .returned (.bool r) ∧ Drawn0 w w' := by
 obtain rfl := Option.some.inj h
 exact (within_any a0 a1 a2 w).mono fun e w' h => ⟨h.1, h.2 ▸ Drawn0.refl _⟩

/-! ### slices_IndexFunc_int_int: function 88 -/
/-- the first index, counted from i on, at which p holds, or -1 -/
def idxFrom (p : Int → Bool) : List Int → Nat → Int
  | [], _ => -1
  | x :: l, i => if p x then (i : Int) else idxFrom p l (i + 1)
theorem idxFrom_hit (p : Int → Bool) (l : List Int) : ∀ (n k : Nat), n < l.length → (∀ j, j < n → p (l.getD j 0) = false) → p (l.getD n 0) = true → idxFrom p l k = ((k + n : Nat) : Int) := by
  induction l with
  | nil => intro n k h; simp at h
  | cons x l ih =>
    intro n k h h1 h2
    cases n with
    | zero => simp at h2; simp [idxFrom, h2]
    | succ n =>
      have := h1 0 (by omega)
      simp at this
      simp only [idxFrom, this]
      rw [if_neg (by simp), ih n (k + 1) (by simpa using h) (fun j hj => by have := h1 (j + 1) (by omega); simpa using this) (by simpa using h2)]
      congr 1; omega
theorem idxFrom_miss (p : Int → Bool) (l : List Int) : ∀ (k : Nat), (∀ j, j < l.length → p (l.getD j 0) = false) → idxFrom p l k = -1 := by
  induction l with
  | nil => intros; rfl
  | cons x l ih =>
    intro k h
    have := h 0 (by simp)
    simp at this
    simp only [idxFrom, this]
    rw [if_neg (by simp), ih (k + 1) (fun j hj => by have := h (j + 1) (by simpa using hj); simpa using this)]
theorem idxFrom_any (p : Int → Bool) (l : List Int) : ∀ k : Nat, decide (0 ≤ idxFrom p l k) = l.any p := by
  induction l with
  | nil => intro k; rfl
  | cons x l ih =>
    intro k
    simp only [idxFrom, List.any_cons]
    by_cases h : p x = true
    · simp [h]
    · simp [h, ih (k + 1)]
theorem drawn_after {w w1 w2 : World} (h1 : Drawn0 w w1) (h2 : Drawn0 w1 w2) : Drawn0 w w2 := by
  obtain ⟨n1, rfl⟩ := h1.out
  obtain ⟨n2, rfl⟩ := h2.out
  exact ⟨⟨n1 + n2, World.drewN_drewN ..⟩⟩
/-- The function value g, with what it has captured, answers p, at each world that differs from w by draws alone. -/
def PredG (g : Nat) (lb : Array Value) (p : Int → Bool) (w : World) : Prop :=
  ∀ (W : World) (x : Int), Drawn0 w W → Calls Try.prog g (#[.int .i64 x] ++ lb) W fun e w' => e = .returned (.bool (p x)) ∧ Drawn0 W w'
set_option maxHeartbeats 2000000 in
theorem indexFunc_pred (g : Nat) (lb : Array Value) (p : Int → Bool) (eg : ∀ args w, (callFunc g args).run Try.prog w = .ok (.enter g args) w) (A0 : Option Addr) (c0 : Nat) (l0 : List Int) (w : World)
    (hp : PredG g lb p w) (hr0 : Kd.C (Kd.int .i64) w A0 l0.length l0) :
    Calls Try.prog 88 #[.slice A0 l0.length c0, .func (.func g) #[] lb] w fun e w' => e = .returned (.int .i64 (idxFrom p l0 0)) ∧ Drawn0 w w' := by
  have HR0 := Aside0.mk hr0
  have HP := Aside0.mk hp
  have hlen : l0.length ≤ 9223372036854775807 := hr0.2.1
  clear hr0 hp
  go_enter Try.func88, Try.ntmps88
  go_wp2
  go_loopg [5, 8] l0.length (fun gg _ s8 wr => ∃ kk : Nat, kk ≤ l0.length ∧ l0.length - kk ≤ gg ∧ s8 = .int .i64 kk ∧ Aside0 (Drawn0 w wr) ∧ Aside0 (∀ j, j < kk → p (l0.getD j 0) = false))
  case atStart => exact ⟨0, Nat.zero_le _, by omega, rfl, ⟨Drawn0.refl w⟩, ⟨fun j hj => absurd hj (Nat.not_lt_zero _)⟩⟩
  case round =>
    obtain ⟨kk, hkk, hg, rfl, BW, A⟩ := hrel
    by_cases hlt : kk < l0.length
    · have hltz : (kk : Int) < (l0.length : Int) := by omega
      obtain ⟨ad, e1, hx⟩ := Kd.at_int HR0.out (kk : Int) (by omega) hltz
      cases e1
      rw [Int.toNat_natCast] at hx
      replace hx := (BW.out.below.cell (World.block_lt_of_cell? w _ hx)).trans hx
      have hcall := HP.out wr (rd l0 kk) BW.out
      have B : Aside0 (rd l0 kk = l0.getD kk 0) := ⟨by unfold rd; congr 1⟩
      generalize rd l0 kk = y at hx hcall B
      cases hq : p y with
      | true =>
        have Q : Aside0 (p y = true) := ⟨hq⟩
        rw [hq] at hcall
        clear hq
        go_wp2_with (go_at_fn g; refine hcall.mono ?_; rintro e w' ⟨rfl, hb'⟩)
        go_ret
        refine ⟨?_, drawn_after BW.out hb'⟩
        rw [idxFrom_hit p l0 kk 0 hlt A.out (by rw [← B.out]; exact Q.out)]; simp
      | false =>
        have Q : Aside0 (p y = false) := ⟨hq⟩
        rw [hq] at hcall
        clear hq
        go_wp2_with (go_at_fn g; refine hcall.mono ?_; rintro e w' ⟨rfl, hb'⟩)
        go_roundg (l0.length - (kk + 1))
        case measure => omega
        case rel =>
          refine ⟨kk + 1, by omega, by omega, by go_num, ⟨drawn_after BW.out hb'⟩, ⟨fun j hj => ?_⟩⟩
          by_cases e : j = kk
          · subst e
            rw [← B.out]; exact Q.out
          · exact A.out j (by omega)
    · have hltz : ¬ (kk : Int) < (l0.length : Int) := by omega
      have : kk = l0.length := by omega
      subst this
      go_wp2
      go_ret
      refine ⟨?_, BW.out⟩
      rw [idxFrom_miss p l0 0 A.out]
      rfl

/-! ### slices_ContainsFunc_int_int: function 70 -/
theorem containsFunc_pred (g : Nat) (lb : Array Value) (p : Int → Bool) (eg : ∀ args w, (callFunc g args).run Try.prog w = .ok (.enter g args) w) (A0 : Option Addr) (c0 : Nat) (l0 : List Int) (w : World)
    (hp : PredG g lb p w) (hr0 : Kd.C (Kd.int .i64) w A0 l0.length l0) :
    Calls Try.prog 70 #[.slice A0 l0.length c0, .func (.func g) #[] lb] w fun e w' => e = .returned (.bool (l0.any p)) ∧ Drawn0 w w' := by
  rw [← idxFrom_any p l0 0]
  have H := Aside0.mk (indexFunc_pred g lb p eg A0 c0 l0 w hp hr0)
  clear hp hr0
  go_enter Try.func70, Try.ntmps70
  go_wp2_with (go_at_call 88; refine H.out.mono ?_; rintro e w' ⟨rfl, hd⟩)
  go_ret
  exact ⟨by simp, hd⟩

/-! ### impl_IsWord: function 44 -/
theorem IsWord_lit (x : Int) (w : World) : Calls Try.prog 71 #[.int .i64 x] w fun e w' => e = .returned (.bool (!decide (1 ≤ x ∧ x ≤ 9))) ∧ w = w' := by
 go_enter Try.func71, Try.ntmps71
 go_wp2_with (go_at_call 45; refine (within_any _ _ _ _).mono ?_; rintro e w' ⟨rfl, rfl⟩)
 go_ret
 exact ⟨by simp, rfl⟩
def impl_IsWord.f (l0 : List Int) : Option (Bool) := some (decide (l0.length ≤ 9) && !l0.any (fun x => !decide (1 ≤ x ∧ x ≤ 9)))
theorem impl_IsWord.calls (A0 : Option Addr) (c0 : Nat) (l0 : List Int) (r : Bool) (w : World) (hr0 : Kd.C (Kd.int .i64) w A0 l0.length l0) (hc0 : l0.length ≤ c0) (h : impl_IsWord.f l0 = some r) : Calls Try.prog 44 #[.slice A0 l0.length c0] w fun e w' => e = .returned (.bool r) ∧ Drawn0 w w' := by
 obtain rfl := Option.some.inj h
 clear h
 have H := Aside0.mk (containsFunc_pred 71 #[] (fun x => !decide (1 ≤ x ∧ x ≤ 9)) (enters_of Try.func71 (by kernel_rfl) rfl) A0 c0 l0 w (fun W x _ => (IsWord_lit x W).mono fun e w' h => ⟨h.1, h.2 ▸ Drawn0.refl _⟩) hr0)
 clear hr0
 by_cases hl : l0.length ≤ 9
 ·have h2 : decide ((l0.length : Int) ≤ 9) = true := by simp; omega
  go_enter Try.func44, Try.ntmps44
  go_wp2_with (go_at_call 70; refine H.out.mono ?_; rintro e w' ⟨rfl, hd⟩)
  go_ret
  exact ⟨by simp [hl], hd⟩
 ·have h2 : decide ((l0.length : Int) ≤ 9) = false := by simp; omega
  go_enter Try.func44, Try.ntmps44
  go_wp2
  go_ret
  exact ⟨by simp [hl], Drawn0.refl _⟩

/-! ### slices_Backward_int_int: function 64 -/
section
open Go.Shelf
attribute [local go_sem] Oper.semAt_some
/-- what slices.Backward hands out: el 0 for the last number, el 1 for the one ahead of it; the first k of them -/
def backTo {α : Type} (el : Nat → α) (k : Nat) : List α := (List.range k).map el
theorem backTo_succ {α : Type} (el : Nat → α) (k : Nat) : backTo el (k + 1) = backTo el k ++ [el k] := by simp [backTo, List.range_succ]
theorem backTo_length {α : Type} (el : Nat → α) (k : Nat) : (backTo el k).length = k := by simp [backTo]
/-- what a round of such a loop leaves as it was: what lay ahead of the call, and the iterator's own variable -/
def BackKeeps (n₀ Bs : Nat) (A B : World) : Prop := Below n₀ A B ∧ (Bs < A.heap.size → B.heap[Bs]? = A.heap[Bs]?) ∧ A.heap.size ≤ B.heap.size
theorem backKeeps_refl (n₀ Bs : Nat) (A : World) : BackKeeps n₀ Bs A A := ⟨Below.refl _ _, fun _ => rfl, Nat.le_refl _⟩
theorem backKeeps_t {n₀ Bs : Nat} {A B C : World} (h : BackKeeps n₀ Bs A B) (k : BackKeeps n₀ Bs B C) : BackKeeps n₀ Bs A C :=
  ⟨h.1.trans k.1, fun hl => (k.2.1 (Nat.lt_of_lt_of_le hl h.2.2)).trans (h.2.1 hl), Nat.le_trans h.2.2 k.2.2⟩
theorem backKeeps_b {n₀ Bs : Nat} {w : World} (hn : n₀ ≤ w.heap.size) (hb : Bs < w.heap.size) (W : World) (l : Nat) (o o' : Obj) (hl : w.heap.size ≤ l) (h : W.heap[l]? = some o) (_ : o.isCells = false) (_ : o.isWalk = false) : BackKeeps n₀ Bs W (W.putObj l o') := by
  have g := grownBy_putObj' W l o'
  refine ⟨(Below.refl n₀ W).grown g (by have := (Array.getElem?_eq_some_iff.1 h).1; omega) (fun k e => by cases e; omega), fun hlt => g.block Bs hlt (fun e => by cases e; omega), g.size⟩
set_option maxRecDepth 100000 in
set_option maxHeartbeats 2000000 in
theorem back1_in {α : Type} (encs : α → Array Value) (el : Nat → α) (F : Fence) (n : Nat) (hf : F.fn 87) (hro : F.round = none) (hn : 1 ≤ n) (l Bs n₀ : Nat) (A : Option Addr) (cap : Nat) (zs : List Int) (W0 : World) (hn0 : n₀ = W0.heap.size) (hC : Kd.C (Kd.int .i64) W0 A zs.length zs) (hel : ∀ k, k < zs.length → encs (el k) = #[.int .i64 ((zs.length - 1 - k : Nat) : Int), .int .i64 (rd zs ((zs.length - 1 - k : Nat) : Int))]) (J Jx : List α → World → Prop)
    (hY : ∀ pre x W, J pre W → pre.length < zs.length → YieldAt F (n - 1) Try.prog l (encs x) W fun e W' =>
      (e = .returned (.bool true) ∧ J (pre ++ [x]) W' ∧ BackKeeps n₀ Bs W W') ∨ (e = .returned (.bool false) ∧ Jx (pre ++ [x]) W'))
    (W : World) (hW : Below n₀ W0 W) (hBs : W.heap[Bs]? = some (.cells #[.slice A zs.length cap] 24 (0, 0))) (h0 : J [] W) :
    CallsIn F n Try.prog 87 #[.func (.yield l) #[] #[], .pointer (some ⟨Bs, 0, none⟩)] W fun e W' => (∃ v, e = .returned v) ∧
      ((∃ ys, ys = backTo el zs.length ∧ J ys W') ∨ (∃ pre, (∃ k, k ≤ zs.length ∧ pre = backTo el k) ∧ Jx pre W')) := by
  have hlen : zs.length ≤ 9223372036854775807 := hC.2.1
  have HC := Aside0.mk hC
  clear hC
  refine callsIn_of_wp Try.func87 rfl hf ?_ hro
  simp only [Try.ntmps87, List.size_toArray, List.length_cons, List.length_nil, Nat.reduceAdd, Nat.reduceSub, Array.replicate_succ, Array.replicate_zero, List.push_toArray, List.append_toArray, List.nil_append, List.cons_append]
  have hz0 : W.cell? ⟨Bs, 0, none⟩ = some (.slice A zs.length cap) := (blk_cell hBs 0).trans rfl
  gi_wp2
  gi_loopw [3] (fun i wr => ∃ k : Nat, k ≤ zs.length ∧ i = .int .i64 ((zs.length : Int) - 1 - (k : Int)) ∧ J (backTo el k) wr ∧ BackKeeps n₀ Bs W wr)
    (fun i _ => (intOf i + 1).toNat)
  case atStart => exact ⟨0, Nat.zero_le _, by go_num, h0, backKeeps_refl _ _ _⟩
  case round =>
    obtain ⟨k, hk, rfl, hJs, hnx⟩ := hrel
    have hzr : wr.cell? ⟨Bs, 0, none⟩ = some (.slice A zs.length cap) := (blk_cell ((hnx.2.1 (blk_lt hBs)).trans hBs) 0).trans rfl
    by_cases hlt : k < zs.length
    · have hge : (0 : Int) ≤ (zs.length : Int) - 1 - (k : Int) := by omega
      have hub : (zs.length : Int) - 1 - (k : Int) < (zs.length : Int) := by omega
      obtain ⟨ad, rfl, hx⟩ := Kd.at_int (Kd.C_below HC.out (by have := hW.trans hnx.1; rw [hn0] at this; exact this)) ((zs.length : Int) - 1 - (k : Int)) hge hub
      have ei : ((zs.length : Int) - 1 - (k : Int)) = ((zs.length - 1 - k : Nat) : Int) := by omega
      have hYk := hY _ (el k) wr hJs (by rw [backTo_length]; exact hlt)
      rw [hel k hlt] at hYk
      obtain ⟨fn, tmps, assign, body, hy, hR⟩ := hYk
      have et : ((zs.length : Int) - 1 - (k : Int)).toNat = zs.length - 1 - k := by omega
      rw [et] at hx
      gi_wp2
      refine hR.mono ?_
      rintro e W3 (⟨rfl, hJ3, hk3⟩ | ⟨rfl, hJx3⟩)
      · gi_wp2
        go_roundw
        case rel => exact ⟨k + 1, by omega, by go_num, by rw [backTo_succ]; exact hJ3, backKeeps_t hnx hk3⟩
        case measure => simp [intOf]; omega
      · gi_wp2
        refine bodyPost_ret (results_none rfl _ _ _) rfl ?_
        exact ⟨⟨_, rfl⟩, .inr ⟨_, ⟨k + 1, by omega, by rw [backTo_succ]⟩, hJx3⟩⟩
    · obtain rfl : k = zs.length := by omega
      have hneg : ¬ (0 : Int) ≤ (zs.length : Int) - 1 - (zs.length : Int) := by omega
      gi_wp2
      go_end0
      first | exact ⟨⟨_, rfl⟩, .inl ⟨_, rfl, hJs⟩⟩ | exact ⟨⟨_, rfl⟩, .inl hJs⟩
set_option maxHeartbeats 1000000 in
/-- slices.Backward(s): the slice value is boxed; the function value captures the box. -/
theorem back_in (F : Fence) (n : Nat) (hf : F.fn 64) (hro : F.round = none) (A : Option Addr) (len cap : Nat) (w : World) :
    CallsIn F n Try.prog 64 #[.slice A len cap] w fun e w' => e = .returned (.func (.func 87) #[] #[.pointer (some ⟨w.heap.size, 0, none⟩)]) ∧ w' = w.alloc (.cells #[.slice A len cap] 24 (0, 0)) := by
  refine callsIn_of_wp Try.func64 rfl hf ?_ hro
  simp only [Try.ntmps64, List.size_toArray, List.length_cons, List.length_nil, Nat.reduceAdd, Nat.reduceSub, Array.replicate_succ, Array.replicate_zero, List.push_toArray, List.append_toArray, List.nil_append, List.cons_append]
  gi_wp2
  go_ret
  exact ⟨rfl, rfl⟩
/-- slices.Backward(s) hands back a value that gives the pairs of indices and numbers from the last one on. -/
theorem back_stops {α : Type} (encs : α → Array Value) (el : Nat → α) (F : Fence) (n : Nat) (hf : F.fn 87) (hro : F.round = none) (hn : 1 ≤ n) (Bs n₀ : Nat) (A : Option Addr) (cap : Nat) (zs : List Int) (W0 w : World) (hn0 : n₀ = W0.heap.size) (hC : Kd.C (Kd.int .i64) W0 A zs.length zs)
    (hel : ∀ k, k < zs.length → encs (el k) = #[.int .i64 ((zs.length - 1 - k : Nat) : Int), .int .i64 (rd zs ((zs.length - 1 - k : Nat) : Int))]) (hW : Below n₀ W0 w) (hnw : n₀ ≤ w.heap.size)
    (hBs : w.heap[Bs]? = some (.cells #[.slice A zs.length cap] 24 (0, 0))) :
    SeqStopsK F n Try.prog 87 #[.pointer (some ⟨Bs, 0, none⟩)] encs (BackKeeps n₀ Bs) (fun ys => ys = backTo el zs.length)
      (fun pre => ∃ k, k ≤ zs.length ∧ pre = backTo el k) zs.length w := fun l J Jx W hWW _ _ hY h0 =>
  back1_in encs el F n hf hro hn l Bs n₀ A cap zs W0 hn0 hC hel J Jx hY W (hW.trans (hWW.mono hnw)) ((hWW.block Bs (blk_lt hBs)).trans hBs) h0
end

/-! ### impl_insertBelow: function 65 -/
/-- where x is taken in a column: the index of the first number that is not below it, or -1 -/
def bumpC (r : List Int) (x : Int) : Int := idxFrom (fun n => decide (x ≤ n)) r 0
theorem idxFromC_range (p : Int → Bool) (l : List Int) : ∀ k : Nat, idxFrom p l k = -1 ∨ ((k : Int) ≤ idxFrom p l k ∧ idxFrom p l k < ((k + l.length : Nat) : Int)) := by
  induction l with
  | nil => intro k; exact .inl rfl
  | cons x l ih =>
    intro k
    simp only [idxFrom, List.length_cons]
    by_cases h : p x = true
    · rw [if_pos h]; exact .inr ⟨by omega, by omega⟩
    · rw [if_neg h]
      rcases ih (k + 1) with h1 | h1
      · exact .inl h1
      · exact .inr ⟨by omega, by omega⟩
theorem bumpC_range (r : List Int) (x : Int) : bumpC r x = -1 ∨ (0 ≤ bumpC r x ∧ bumpC r x < (r.length : Int)) := by
  have := idxFromC_range (fun n => decide (x ≤ n)) r 0
  unfold bumpC; simpa using this
/-- the columns with x inserted -/
def insCols : List (List Int) → Int → List (List Int)
  | [], x => [[x]]
  | r :: l, x => if bumpC r x < 0 then (r ++ [x]) :: l else r.set (bumpC r x).toNat x :: insCols l (rd r (bumpC r x))
theorem insertBelow_lit (n x : Int) (bx : Nat) (w : World) (hx : w.heap[bx]? = some (.cells #[.int .i64 x] 3 (0, 0))) : Calls Try.prog 89 #[.int .i64 n, .pointer (some ⟨bx, 0, none⟩)] w fun e w' => e = .returned (.bool (decide (x ≤ n))) ∧ w = w' := by
  have h1 : w.cell? ⟨bx, 0, none⟩ = some (.int .i64 x) := (blk_cell hx 0).trans rfl
  go_enter Try.func89, Try.ntmps89
  go_wp2
  go_ret
  exact ⟨by simp, rfl⟩
/-- a row of one number, just made -/
theorem R_oneC (W : World) (base t : Nat) (x : Int) (hb : base ≤ W.heap.size) : (Kd.int .i64).R t (W.alloc (.cells #[.int .i64 x] t (0, 0))) base (fun k => k = W.heap.size) (.slice (some ⟨W.heap.size, 0, none⟩) 1 1) [x] := by
  refine ⟨fun k hk => ?_, [.int .i64 x], ?_, ?_⟩
  · have : W.heap.size = k := by simpa [Value.ownBlock] using hk
    exact this.symm
  · have h2 := World.ownsRow_lit (base := base) (e := t) (size := 1) W #[.int .i64 x] 1 hb (by simp [maxLen]) rfl
    show (W.alloc (.cells #[.int .i64 x] t (0, 0))).ownsRow base t 1 (.slice (some ⟨W.heap.size, 0, none⟩) 1 1) 1 [.int .i64 x]
    simpa using h2
  · refine ⟨rfl, fun i p hp => ?_⟩
    cases i with
    | zero =>
      obtain rfl : x = p := by simpa using hp
      rfl
    | succ i => simp at hp
theorem setC_take_succ {α : Type} (l : List α) (i : Nat) (q : α) (h : i < l.length) : (l.set i q).take (i + 1) = l.take i ++ [q] := by
  have e : (l.take i).length = i := by rw [List.length_take]; omega
  rw [List.set_eq_take_append_cons_drop, if_pos h, List.take_append, List.take_of_length_le (by omega), e, show i + 1 - i = 1 by omega]
  rfl
theorem setC_drop_succ {α : Type} (l : List α) (i : Nat) (q : α) (h : i < l.length) : (l.set i q).drop (i + 1) = l.drop (i + 1) := by
  have e : (l.take i).length = i := by rw [List.length_take]; omega
  rw [List.set_eq_take_append_cons_drop, if_pos h, List.drop_append, List.drop_of_length_le (by omega), e, show i + 1 - i = 1 by omega]
  rfl
set_option maxHeartbeats 8000000 in
set_option maxRecDepth 100000 in
theorem insertBelow_calls (w0 w : World) (v : Value) (rows : List (List Int)) (x : Int) (ok : Nat → Prop) (hB : Below w0.heap.size w0 w)
    (hS : Kd.S (Kd.slice 3 (Kd.int .i64)) 24 w w0.heap.size ok v rows) (hl : rows.length ≤ 1000) (hr : ∀ r ∈ rows, r.length ≤ 1000) :
    Calls Try.prog 65 #[v, .int .i64 x] w fun e w' => ∃ v', e = .returned v' ∧ Kd.S (Kd.slice 3 (Kd.int .i64)) 24 w' w0.heap.size (fun k => ok k ∨ w.heap.size ≤ k) v' (insCols rows x) ∧ Below w0.heap.size w0 w' ∧ Kept w w' (fun k => ok k) := by
  have hw0 := hB.size
  obtain ⟨A, c, hu⟩ := Kd.R_slice (Kd.S_R hS)
  subst hu
  have HS := Aside0.mk (Kd.S_mono (Kd.S_bound hS) (ok' := fun k => ok k ∧ k < w.heap.size) (fun k hk => ⟨hk.1, hk.2.2.1⟩))
  have HB := Aside0.mk hB
  have HR := Aside0.mk hr
  have HL := Aside0.mk hl
  clear hS hB hr hl
  go_enter Try.func65, Try.ntmps65
  go_wp2_with ((with_reducible refine gate_dst (N := 3) rfl ?_); refine zX (N := 3) (cs := #[.int .i64 x]) (t := 3) ?_; intro bx hbx w1 hbox hbel; have S1 := Aside0.mk (Kd.S_below HS.out hbel); have B1 := Aside0.mk (below_then HB.out hw0 hbel); have K1 := Aside0.mk (Kept.of_below hbel (fun k => ok k)); have X1 := Aside0.mk hbox; have HBX := Aside0.mk hbx; clear hbox hbel HS HB hbx)
  go_loopg [10] rows.length (fun kq v10 wr => ∃ (i : Nat) (xi : Int) (rs : List (List Int)), i ≤ rows.length ∧ rows.length - i ≤ kq ∧ v10 = .int .i64 i ∧ rs.length = rows.length ∧ Aside0 (insCols rows x = rs.take i ++ insCols (rs.drop i) xi) ∧ Aside0 (∀ r ∈ rs, r.length ≤ 1000) ∧
    Aside0 (Kd.S (Kd.slice 3 (Kd.int .i64)) 24 wr w0.heap.size (fun k => ok k ∧ k < w.heap.size) (.slice A rows.length c) rs) ∧ Aside0 (wr.heap[bx]? = some (.cells #[.int .i64 xi] 3 (0, 0))) ∧ Aside0 (Below w0.heap.size w0 wr) ∧ Aside0 (Kept w wr (fun k => ok k)))
  case atStart => exact ⟨0, x, rows, Nat.zero_le _, by omega, rfl, rfl, ⟨rfl⟩, HR, S1, X1, B1, K1⟩
  case round =>
    clear S1 B1 K1 X1 HR
    obtain ⟨i, xi, rs, hi, hg, rfl, hrs, HI, HR, HS, HX, HB, HK⟩ := hrel
    have hcx : wr.cell? ⟨bx, 0, none⟩ = some (.int .i64 xi) := (blk_cell HX.out 0).trans rfl
    by_cases hlt : i < rows.length
    · have hltz : (i : Int) < (rows.length : Int) := by omega
      obtain ⟨g, cc, e0⟩ : ∃ g cc, (Value.slice A rows.length c) = .slice (some ⟨g, 0, none⟩) rows.length cc := by
        obtain ⟨g, cc, e0, _⟩ := Kd.R_form (Kd.S_R HS.out) (by omega)
        injection e0 with ea el ec
        exact ⟨g, c, by rw [ea]⟩
      injection e0 with ea _ ec
      subst ea ec
      have GO : Aside0 (ok g ∧ w0.heap.size ≤ g) := ⟨((Kd.S_R HS.out).1 g (by simp [Value.ownBlock])).1, Kd.R_base (Kd.S_R HS.out) g (by simp [Value.ownBlock])⟩
      have GX : Aside0 (g ≠ bx) := ⟨by
        obtain ⟨g', cc, e0, _, _, cells, hce⟩ := Kd.R_form (Kd.S_R HS.out) (by omega)
        injection e0 with ea _ _
        injection ea with ea
        injection ea with ea _ _
        rw [← ea] at hce
        exact blk_ne hce HX.out (by decide)⟩
      obtain ⟨oki, cs, hcl, hM, hcc, hfr, hoki, hH⟩ := Kd.S_elem HS.out [] (i : Int) (by omega) (by omega)
      rw [Int.toNat_natCast] at hM
      obtain ⟨v, rfl, hR⟩ := hM
      obtain ⟨A1, c1, e1⟩ := Kd.R_slice hR
      subst e1
      have hx1 := hcc 0 _ rfl
      rw [show (i : Int).toNat * (Kd.slice 3 (Kd.int .i64)).sz + 0 = i from by show (i : Int).toNat * 1 + 0 = i; omega] at hx1
      have hf1 := hfr 0
      rw [show (i : Int).toNat * (Kd.slice 3 (Kd.int .i64)).sz + 0 = i from by show (i : Int).toNat * 1 + 0 = i; omega] at hf1
      have hd : rs.drop i = rs.getD i [] :: rs.drop (i + 1) := by
        rw [List.drop_eq_getElem_cons (by omega), List.getD_eq_getElem?_getD, List.getElem?_eq_getElem (by omega)]; rfl
      have hrl : (rs.getD i []).length ≤ 1000 := HR.out _ (by rw [List.getD_eq_getElem?_getD, List.getElem?_eq_getElem (by omega)]; exact List.getElem_mem _)
      have HI2 := HI.out
      rw [hd] at HI2
      have RO := Aside0.mk hR
      have HO := Aside0.mk hoki
      have HH := Aside0.mk hH
      have HC := Aside0.mk (indexFunc_pred 89 #[.pointer (some ⟨bx, 0, none⟩)] (fun n => decide (xi ≤ n)) (enters_of Try.func89 (by kernel_rfl) rfl) A1 c1 (rs.getD i []) wr (fun W n hd => (insertBelow_lit n xi bx W (by obtain ⟨m, rfl⟩ := hd.out; exact HX.out)).mono fun e w' h => ⟨h.1, h.2 ▸ Drawn0.refl _⟩) (Kd.R_reads' hR).2.2)
      clear HI hd hR hoki hH hcc hfr hcl HS
      rw [show idxFrom (fun n => decide (xi ≤ n)) (rs.getD i []) 0 = bumpC (rs.getD i []) xi from rfl] at HC
      have hci : wr.cell? ⟨g, i, none⟩ = some (.slice A1 (rs.getD i []).length c1) := hx1
      obtain ⟨r, hrr⟩ : ∃ r, r = rs.getD i [] := ⟨_, rfl⟩
      rw [← hrr] at hx1 hci RO HC HH HI2 hrl
      have RR := Aside0.mk hrr
      have HI := Aside0.mk HI2
      clear hrr HI2 hci
      rcases bumpC_range r xi with hbu | ⟨hb0, hb1⟩
      · have HBU := Aside0.mk hbu
        rw [hbu] at HC
        clear hbu
        go_wp2_with (first | (go_at_call 88; refine HC.out.mono ?_; rintro e w6 ⟨rfl, ⟨m6, rfl⟩⟩; have X6 := Aside0.mk (blk_drewN HX.out m6); have hcx6 : (wr.drewN m6).cell? ⟨bx, 0, none⟩ = some (.int .i64 xi) := (blk_cell X6.out 0).trans rfl; clear hcx hx1) | ((with_reducible refine gate_builtin (b := .append) (xs := #[.tmp 22, .tmp 24]) rfl ?_); at_builtin; refine Kd.R_append (Kd.int .i64) (w0 := w0) w0.heap.size rfl (.tmp 22) (.tmp 24) 24 3 (.int .i64 0) 8 rfl Try.underlying24 info3 rfl (by decide) (by omega) (.slice A1 r.length c1) r xi [.int .i64 xi] (fun k => oki k ∨ (ok k ∨ w.heap.size ≤ k) ∧ wr.heap.size ≤ k) (fun _ => False) rfl rfl ?aP (fun _ hk => hk.elim) ?aF ?aO ?aB ?aS ?aL ?_; (case aP => exact rfl); (case aF => exact fun k hk => .inr ⟨.inr (Nat.le_trans HK.out.1 hk), hk⟩); (case aO => exact Kd.R_drewN (Kd.R_mono RO.out (fun _ hk => .inl hk)) m6); (case aB => exact pw_below_drewN HB.out m6); (case aS => exact HB.out.size); (case aL => omega); intro v7 w7 ho hb hg hat; obtain ⟨Ao, co, eo⟩ := Kd.R_slice ho; subst eo; have R7 := Aside0.mk ho; have B7 := Aside0.mk hb; have G7 := Aside0.mk hg; have H7 := Aside0.mk (Kd.H_grown (Kd.H_widen (Kd.H_mono (Kd.H_drewN HH.out m6) (fun k hk => (.inl hk.1 : ok k ∨ w.heap.size ≤ k)))) hg (fun k e => .inl (RO.out.1 k e))); obtain ⟨hc7, hf7⟩ := Kd.H_at H7.out (show (0 : Int) ≤ (i : Int) by omega) (show (i : Int) < (rows.length : Int) by omega); have hx7 := hc7 0 _ rfl; have hy7 := hf7 0; rw [show (i : Int).toNat * (Kd.slice 3 (Kd.int .i64)).sz + 0 = i from by show (i : Int).toNat * 1 + 0 = i; omega] at hx7 hy7; clear ho hb hg hat hc7 hf7))
        go_ret
        have hii : i < rs.length := by omega
        have eI : insCols rows x = rs.set i (r ++ [xi]) := by
          rw [HI.out]
          simp only [insCols]
          rw [if_pos (by rw [HBU.out]; decide), List.set_eq_take_append_cons_drop, if_pos hii]
        have S8 := (Kd.S_seg0 H7.out (show (0 : Int) ≤ (i : Int) by omega) (show (i : Int) < (rows.length : Int) by omega) (seg := [.slice Ao (r ++ [xi]).length co]) (j := 0) (show 1 ≤ 1 from by decide) (x' := r ++ [xi]) (Kd.M_row R7.out) (fun _ hk => hk)).1
        rw [show (i : Int).toNat * (Kd.slice 3 (Kd.int .i64)).sz + 0 = i from by show (i : Int).toNat * 1 + 0 = i; omega, Int.toNat_natCast, show (r ++ [xi]).length = r.length + 1 by simp] at S8
        rw [eI]
        exact ⟨_, rfl, S8, below_set B7.out GO.out.2, ((Kept.of_grown G7.out (Kept.drewN HK.out m6) (fun k e => .inl ((HO.out k (RO.out.1 k e)).1.1))).setCell (.inl GO.out.1) _)⟩
      · obtain ⟨k, hk⟩ : ∃ k : Nat, bumpC r xi = (k : Int) := ⟨(bumpC r xi).toNat, by omega⟩
        rw [hk] at hb1 HC
        have hkl : k < r.length := by omega
        obtain ⟨g2, c2, e2, gb2, gl2, cl2, ht2⟩ := Kd.R_form RO.out (by omega)
        injection e2 with ea el ec
        subst ea
        have GB2 := Aside0.mk gb2
        have KP := Aside0.mk hk
        have K0 := Aside0.mk (show g2 ≠ bx by have := HO.out g2 (RO.out.1 g2 (by simp [Value.ownBlock])); have := HBX.out; omega)
        clear gb2 gl2 ht2 hk hb0 el ec
        go_wp2_with (go_at_call 88; refine HC.out.mono ?_; rintro e w6 ⟨rfl, hd6⟩; have D6 := Aside0.mk hd6.below; clear hd6 hcx hx1)
        have X6 := Aside0.mk (blk_drew (blk_below HX.out D6.out))
        have X5 := Aside0.mk (blk_below HX.out D6.out)
        have R5 := Aside0.mk (Kd.R_below RO.out D6.out)
        have R6 := Aside0.mk (Kd.R_drew (Kd.R_below RO.out D6.out))
        have hcx6 : w6.drew.cell? ⟨bx, 0, none⟩ = some (.int .i64 xi) := (blk_cell X6.out 0).trans rfl
        have hfx6 : w6.drew.frozen? ⟨bx, 0, none⟩ = false := blk_frozen X6.out 0
        obtain ⟨hy6, hz6⟩ := Kd.R_celln 0 R6.out (k : Int) (by omega) (by omega)
        rw [Int.toNat_natCast] at hy6 hz6
        obtain ⟨y, hyy⟩ : ∃ y, y = rd r (k : Int) := ⟨_, rfl⟩
        replace hy6 : w6.drew.cell? ⟨g2, k, none⟩ = some (.int .i64 y) := by rw [hyy]; exact hy6
        have YY := Aside0.mk hyy
        clear hyy
        have R7 := Aside0.mk (Kd.R_far (p := ⟨bx, 0, none⟩) R6.out (fun q hq => by have := HO.out q hq; have := HBX.out; show q ≠ bx; omega) (.int .i64 y))
        have hP8 := Kd.R_putg R7.out (k : Int) xi
        rw [Int.toNat_natCast] at hP8
        have P8 := Aside0.mk hP8
        clear hP8
        have X8 := Aside0.mk (blk_far (p := ⟨g2, k, none⟩) (blk_put (cs' := #[.int .i64 y]) X6.out 0 (.int .i64 y) rfl) (Ne.symm K0.out) (.int .i64 xi))
        have B8 := Aside0.mk (below_set (j := k) (v := .int .i64 xi) (below_set (j := 0) (v := .int .i64 y) (below_drew (below_then HB.out (Nat.le_trans hw0 HK.out.1) D6.out)) (show w0.heap.size ≤ bx by have := HBX.out; omega)) GB2.out)
        have Q8 := Aside0.mk (((HK.out.below D6.out).drew.setCell (p := ⟨bx, 0, none⟩) (.inr (by have := HBX.out; show w.heap.size ≤ bx; omega)) (.int .i64 y)).setCell (p := ⟨g2, k, none⟩) (.inl ((HO.out g2 (RO.out.1 g2 (by simp [Value.ownBlock]))).1.1)) (.int .i64 xi))
        have S8 := Aside0.mk (Kd.H_back (Kd.H_grown (Kd.H_far (p := ⟨bx, 0, none⟩) (Kd.H_drew (Kd.H_below HH.out D6.out)) (fun q hq => by have := HBX.out; have := hq.2; show q ≠ bx; omega) (.int .i64 y)) P8.out.2 (fun q e => by cases e; exact RO.out.1 g2 (by simp [Value.ownBlock]))) (x' := r.set k xi) (okp := oki) ⟨_, rfl, P8.out.1⟩ (fun _ h => h))
        have hii : i < rs.length := by omega
        have NX : Aside0 (insCols rows x = (rs.set i (r.set k xi)).take (i + 1) ++ insCols ((rs.set i (r.set k xi)).drop (i + 1)) y) := ⟨by
          rw [HI.out]
          simp only [insCols]
          rw [if_neg (by rw [KP.out]; omega), KP.out, Int.toNat_natCast, ← YY.out, setC_take_succ rs i _ hii, setC_drop_succ rs i _ hii, List.append_assoc]
          rfl⟩
        have NR : Aside0 (∀ q ∈ rs.set i (r.set k xi), q.length ≤ 1000) := ⟨fun q hq => by
          rcases List.mem_or_eq_of_mem_set hq with h | h
          · exact HR.out q h
          · rw [h]; simpa using hrl⟩
        clear HH HI HR HO RO R6 R7 X6 P8 HC HX HB HK
        have hcx5 : w6.cell? ⟨bx, 0, none⟩ = some (.int .i64 xi) := (blk_cell X5.out 0).trans rfl
        have hfx5 : w6.frozen? ⟨bx, 0, none⟩ = false := blk_frozen X5.out 0
        have hy5 : w6.cell? ⟨g2, k, none⟩ = some (.int .i64 y) := by rw [YY.out]; have := (Kd.R_celln 0 R5.out (k : Int) (by omega) (by omega)).1; rwa [Int.toNat_natCast] at this
        have hz5 : w6.frozen? ⟨g2, k, none⟩ = false := by have := (Kd.R_celln 0 R5.out (k : Int) (by omega) (by omega)).2; rwa [Int.toNat_natCast] at this
        have hne := K0.out
        have hne2 := Ne.symm K0.out
        have hll := HL.out
        go_region_with fail
        all_goals go_wp2
        all_goals go_roundg (rows.length - (i + 1))
        all_goals first
          | omega
          | exact ⟨i + 1, y, rs.set i (r.set k xi), by omega, by omega, by go_num, by simpa using hrs, NX, NR, ⟨by have := S8.out; rwa [Int.toNat_natCast] at this⟩, X8, B8, Q8⟩
    · have hie : i = rows.length := by omega
      have hltz : ¬ (i : Int) < (rows.length : Int) := by omega
      have hdn : rs.drop i = [] := List.drop_of_length_le (by omega)
      have htk : rs.take i = rs := List.take_of_length_le (by omega)
      have HI2 := HI.out
      rw [hdn, htk] at HI2
      have HI3 : Aside0 (insCols rows x = rs ++ [[xi]]) := ⟨HI2⟩
      have HE := Aside0.mk hie
      have HRS := Aside0.mk hrs
      clear HI2 HI hdn htk hie hrs
      have S6 := Aside0.mk (Kd.S_alloc (Kd.S_mono (ok' := fun k => (ok k ∨ w.heap.size ≤ k) ∧ ¬ k = wr.heap.size) HS.out (fun k hk => ⟨.inl hk.1, fun e => by have := HK.out.1; have := hk.2; omega⟩)) (.cells #[.int .i64 xi] 3 (0, 0)))
      have B6 := Aside0.mk (below_alloc HB.out (.cells #[.int .i64 xi] 3 (0, 0)))
      have AK : Aside0 (∀ k, k = wr.heap.size → (ok k ∨ w.heap.size ≤ k) ∧ some k ≠ (Value.slice A rows.length c).ownBlock) := ⟨fun k hk => ⟨.inr (by have := HK.out.1; omega), fun e => by have := ((Kd.S_R HS.out).1 k e.symm).2; have := HK.out.1; omega⟩⟩
      have AF : Aside0 (∀ k, (wr.alloc (.cells #[.int .i64 xi] 3 (0, 0))).heap.size ≤ k → ok k ∨ w.heap.size ≤ k) := ⟨fun k hk => .inr (Nat.le_trans HK.out.1 (Nat.le_trans (below_alloc (Below.refl _ wr) (.cells #[.int .i64 xi] 3 (0, 0))).size hk))⟩
      have AZ : Aside0 ((wr.alloc (.cells #[.int .i64 xi] 3 (0, 0))).heap.size = wr.heap.size + 1) := ⟨by show (wr.heap.push _).size = _; exact Array.size_push ..⟩
      go_wp2_with ((with_reducible refine gate_builtin (b := .append) (xs := #[.tmp 37, .tmp 40]) rfl ?_); at_builtin; refine Kd.S_append (Kd.slice 3 (Kd.int .i64)) (w0 := w0) (W := wr.alloc (.cells #[.int .i64 xi] 3 (0, 0))) w0.heap.size rfl (.tmp 37) (.tmp 40) 32 24 (.slice none 0 0) 24 rfl Try.underlying32 info24 rfl (by decide) (by omega) (.slice A rows.length c) rs [xi] [.slice (some ⟨wr.heap.size, 0, none⟩) 1 1] (fun k => ok k ∨ w.heap.size ≤ k) (fun k => k = wr.heap.size) rfl ?aX ?aM ?aK ?aF ?aO ?aB ?aS ?aL ?_; (case aX => first | rfl | (show Value.slice (some ⟨wr.heap.size + 1, 0, none⟩) 1 1 = _; rw [AZ.out]; done)); (case aM => exact ⟨_, rfl, R_oneC wr w0.heap.size 3 xi HB.out.size⟩); (case aK => exact AK.out); (case aF => exact AF.out); (case aO => exact S6.out); (case aB => exact B6.out); (case aS => exact B6.out.size); (case aL => have := HL.out; have := HRS.out; omega); intro v7 w7 ho hb7 hg7 hat; obtain ⟨Ao, co, eo⟩ := Kd.R_slice (Kd.S_R ho); subst eo; have S7 := Aside0.mk ho; have B7 := Aside0.mk hb7; have G7 := Aside0.mk hg7; clear ho hb7 hg7 hat)
      go_ret
      rw [HI3.out]
      exact ⟨.slice Ao (rs.length + 1) co, rfl, by simpa using S7.out, B7.out, Kept.of_grown G7.out (Kept.alloc HK.out (.cells #[.int .i64 xi] 3 (0, 0))) (fun k e => .inl ((Kd.S_R HS.out).1 k e).1)⟩
/-- what insertBelow hands back -/
def impl_insertBelow.f (l0 : List (List Int)) (a1 : Int) : Option (List (List Int)) := some (insCols l0 a1)

end Go.Proofs.Ytfijlemaiiobaaa.F
