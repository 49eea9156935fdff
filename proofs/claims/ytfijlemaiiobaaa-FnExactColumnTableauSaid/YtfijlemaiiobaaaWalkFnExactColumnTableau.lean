/- The walk of the law on ColumnTableau, over what the law holds; condition: the law's pure statement, told below. -/
import Derived.Test.YtfijlemaiiobaaaF4
import Derived.Test.YtfijlemaiiobaaaQBase
import Derived.Test.YtfijlemaiiobaaaQColImpl
import Derived.Test.YtfijlemaiiobaaaQColTableau
import Derived.Test.YtfijlemaiiobaaaQCols
import Derived.Test.YtfijlemaiiobaaaQIsWord
import Derived.Test.YtfijlemaiiobaaaQKeep
import Derived.Test.YtfijlemaiiobaaaQKeepInts
import Derived.Test.YtfijlemaiiobaaaQKeepTab
import Derived.Test.YtfijlemaiiobaaaQRows
import Derived.RangeFuncNested
import Derived.RangeFuncBound
import Derived.RangeFuncCalls
import Derived.RangeFuncLeaves
import Derived.RangeFuncFrom
import Derived.Shelf.RegionOpen
import Derived.OwnWalkIn
import Derived.TacticsInMore
import Derived.LoopNIn
import Derived.LoopIn
import Derived.Sort.BigQuietIn
import Derived.IntWalk
set_option linter.unusedVariables false
set_option linter.unusedSimpArgs false
namespace Go.Proofs.Ytfijlemaiiobaaa.Walk
open Go.RowKit Go.Proofs.Ytfijlemaiiobaaa.F Go.Proofs.YtfijlemaiiobaaaW.PrintWords Go.Proofs.YtfijlemaiiobaaaW.PrintLast Go.Proofs.YtfijlemaiiobaaaW.PrintMore Go.Proofs.Ytfijlemaiiobaaa.Q
section
open Go.Shelf
attribute [local go_sem] Oper.semAt_some
open BigFrame
abbrev Num9 := { x : Nat × Int // 1 ≤ x.2 ∧ x.2 ≤ 9 }
def numEl (zs : List Int) (k : Nat) : Num9 := if h : 1 ≤ rd zs ((zs.length - 1 - k : Nat) : Int) ∧ rd zs ((zs.length - 1 - k : Nat) : Int) ≤ 9 then ⟨(zs.length - 1 - k, rd zs ((zs.length - 1 - k : Nat) : Int)), h⟩ else ⟨(0, 1), by decide⟩
theorem numEl_enc {zs : List Int} (h : ∀ z ∈ zs, 1 ≤ z ∧ z ≤ 9) (k : Nat) (hk : k < zs.length) : (numEl zs k).1 = (zs.length - 1 - k, rd zs ((zs.length - 1 - k : Nat) : Int)) := by
  unfold numEl
  have hlt : zs.length - 1 - k < zs.length := by omega
  rw [dif_pos (h _ (rd_mem zs _ hlt))]
theorem num_came {zs : List Int} (h : ∀ z ∈ zs, 1 ≤ z ∧ z ≤ 9) : ∀ k, k ≤ zs.length → (backTo (numEl zs) k).map (fun x => x.1.2) = zs.reverse.take k
  | 0, _ => by simp [backTo]
  | k + 1, hk => by
    have hlt : zs.length - 1 - k < zs.length := by omega
    rw [backTo_succ, List.map_append, num_came h k (by omega), List.take_succ_eq_append_getElem (by rw [List.length_reverse]; omega), List.getElem_reverse]
    simp only [List.map_cons, List.map_nil]
    rw [numEl_enc h k (by omega), rd_eq zs _ hlt]
theorem blk_keptC {W W' : World} {row : Option Nat} {b t : Nat} {cs : Array Value} (h : W.heap[b]? = some (.cells cs t (0, 0))) (hg : W.grownBy W' row) (hr : ∀ r, row = some r → ∃ o : Obj, W.heap[r]? = some o ∧ o.isCells = false) : W'.heap[b]? = some (.cells cs t (0, 0)) :=
  (grownBy_keeps_cells hg hr h rfl).trans h
theorem R_keptOn {α : Type} {d : Kd α} {e base : Nat} {ok : Nat → Prop} {w w' : World} {v : Value} {xs : List α} {row : Option Nat} (h : d.R e w base ok v xs) (hg : w.grownBy w' row) (hr : ∀ r, row = some r → ∃ o : Obj, w.heap[r]? = some o ∧ o.isCells = false) : d.R e w' base ok v xs :=
  Kd.R_mono (Kd.R_grown (Kd.R_bound h) hg (fun k hk e1 => by
    obtain ⟨o, ho, hc⟩ := hr k e1.symm
    obtain ⟨_, _, _, q, _, cells, hcell⟩ := hk
    rw [hcell] at ho; cases ho; cases hc)) (fun k hk => hk.1)
theorem below_drewN' {B : Nat} {a w : World} (h : Below B a w) (n : Nat) : Below B a (w.drewN n) := h.trans ⟨rfl, rfl, rfl, Nat.le_refl _, fun _ _ => rfl⟩
theorem S_keptC {α : Type} {d : Kd α} {e base : Nat} {ok : Nat → Prop} {w w' : World} {v : Value} {xs : List α} {row : Option Nat} (h : Kd.S d e w base ok v xs) (hg : w.grownBy w' row) (hr : ∀ r, row = some r → ∃ o : Obj, w.heap[r]? = some o ∧ o.isCells = false) : Kd.S d e w' base ok v xs :=
  Kd.S_mono (Kd.S_grown (Kd.S_bound h) hg (fun k hk e1 => by
    obtain ⟨o, ho, hc⟩ := hr k e1.symm
    obtain ⟨_, _, _, q, _, cells, hcell⟩ := hk
    rw [hcell] at ho; cases ho; cases hc)) (fun k hk => hk.1)
theorem S_empty {α : Type} {d : Kd α} {e base g : Nat} {ok : Nat → Prop} {W : World} (h : W.heap[g]? = some (.cells #[] e (0, 0))) (hb : base ≤ g) (hok : ok g) : Kd.S d e W base ok (.slice (some ⟨g, 0, none⟩) 0 0) [] :=
  ⟨fun _ => 0, fun k hk => by
    have e1 : g = k := by simpa [Value.ownBlock] using hk
    subst e1; exact hok, [], ⟨by simp, .inr ⟨g, 0, #[], rfl, hb, h, Nat.le_refl _, by decide, by simp, by simp⟩⟩, Reps.none _ _⟩
theorem others_kept {W W' : World} {ok : Nat → Prop} (h : Kept W W' ok) (ht : ∀ k, ok k → ∃ cells q, W.heap[k]? = some (.cells cells q (0, 0))) : KeepsOthers W W' :=
  ⟨h.1, fun k o ho hc => by
    by_cases hk : ok k
    · obtain ⟨cells, q, e⟩ := ht k hk
      rw [e] at ho; cases ho; cases hc
    · exact (h.2 k (Array.getElem?_eq_some_iff.1 ho).1 hk).trans ho⟩
set_option maxHeartbeats 8000000 in
set_option maxRecDepth 100000 in
theorem columnTableau_in (A0 : Option Addr) (c0 : Nat) (l0 : List Int) (w : World) (hr0 : Kd.C (Kd.int .i64) w A0 l0.length l0) (hc0 : l0.length ≤ c0) (hw : impl_IsWord.f l0 = some true) (h9 : ∀ z ∈ l0, 1 ≤ z ∧ z ≤ 9) (hl : l0.length ≤ 9) (r2 : List (List Int)) (hr2 : cols (colC l0) = r2) :
    CallsIn Fence.wide 3 Try.prog 38 #[.slice A0 l0.length c0] w fun e w' => ∃ v0_ v1_ : Value, e = .returned (.tuple #[.agg #[v0_, v1_], .bool true]) ∧ Kd.R (Kd.int .i64) 3 w' w.heap.size (fun _ => True) v0_ [] ∧ Kd.S (Kd.slice 3 (Kd.int .i64)) 24 w' w.heap.size (fun k_ => some k_ ≠ (v0_ : Value).ownBlock) v1_ r2 ∧ Below w.heap.size w w' := by
  have HR := Aside0.mk hr0
  have HC := Aside0.mk hc0
  have HW := Aside0.mk hw
  have H9 := Aside0.mk h9
  have HL := Aside0.mk hl
  have H2 := Aside0.mk hr2
  clear hr0 hc0 hw h9 hl hr2
  refine callsIn_of_wp_marks Try.func38 rfl trivial ?_ rfl
  simp only [Try.ntmps38, List.size_toArray, List.length_cons, List.length_nil, Nat.reduceAdd, Nat.reduceSub, Array.replicate_succ, Array.replicate_zero, List.push_toArray, List.append_toArray, List.nil_append, List.cons_append]
  gi_wp2_with (first
    | (gi_at_call 44; refine (callsIn_wide.2 (impl_IsWord.calls A0 c0 l0 true _ (Kd.C_alloc HR.out _) HC.out HW.out)).mono ?_; rintro e w6 ⟨rfl, hd⟩; have D6 := Aside0.mk hd; clear hd)
    | (refine ⟨trivial, ?_⟩; gi_at_call 44; refine (callsIn_wide.2 (impl_IsWord.calls A0 c0 l0 true _ (Kd.C_alloc HR.out _) HC.out HW.out)).mono ?_; rintro e w6 ⟨rfl, hd⟩; have D6 := Aside0.mk hd; clear hd)
    | (refine ⟨trivial, ?_⟩; gi_at_call 64; refine (back_in Fence.wide 2 trivial rfl _ _ _ _).mono ?_; rintro e w7 ⟨rfl, rfl⟩))
  obtain ⟨N, hN⟩ : ∃ N, N = w.heap.size := ⟨_, rfl⟩
  have e6 : w6.heap = (w.alloc (.cells #[.slice none 0 0, .slice none 0 0] 34 (0, 0))).heap := by obtain ⟨k, rfl⟩ := D6.out; rfl
  have s6 : w6.heap.size = N + 1 := by rw [e6, World.size_alloc, hN]
  have b6 : Below N w w6 := by
    have h1 := D6.out
    obtain ⟨k, rfl⟩ := h1
    rw [hN]
    exact ((Below.refl _ w).alloc (Nat.le_refl _) _).trans ⟨rfl, rfl, rfl, Nat.le_refl _, fun _ _ => rfl⟩
  have h62 : w6.heap[N]? = some (.cells #[.slice none 0 0, .slice none 0 0] 34 (0, 0)) := by rw [e6, hN]; exact World.alloc_heap_new w _
  rw [← hN, s6]
  obtain ⟨WA, hWA⟩ : ∃ WA, WA = w6.alloc (.cells #[] 24 (0, 0)) := ⟨_, rfl⟩
  rw [← hWA]
  obtain ⟨WB, hWB⟩ : ∃ WB, WB = WA.alloc (.cells #[.slice (some ⟨N + 1, 0, none⟩) 0 0] 32 (0, 0)) := ⟨_, rfl⟩
  rw [← hWB]
  obtain ⟨W0, hW0⟩ : ∃ W0, W0 = WB.alloc (.cells #[.slice A0 l0.length c0] 24 (0, 0)) := ⟨_, rfl⟩
  rw [← hW0]
  have sA : WA.heap.size = N + 2 := by rw [hWA, World.size_alloc, s6]
  have sB : WB.heap.size = N + 3 := by rw [hWB, World.size_alloc, sA]
  have s0 : W0.heap.size = N + 4 := by rw [hW0, World.size_alloc, sB]
  have hmA : WA.heap[N + 1]? = some (.cells #[] 24 (0, 0)) := by rw [hWA, ← s6]; exact World.alloc_heap_new w6 _
  have h3B : WB.heap[N + 2]? = some (.cells #[.slice (some ⟨N + 1, 0, none⟩) 0 0] 32 (0, 0)) := by rw [hWB, ← sA]; exact World.alloc_heap_new WA _
  have hs0 : W0.heap[N + 3]? = some (.cells #[.slice A0 l0.length c0] 24 (0, 0)) := by rw [hW0, ← sB]; exact World.alloc_heap_new WB _
  have h30 : W0.heap[N + 2]? = some (.cells #[.slice (some ⟨N + 1, 0, none⟩) 0 0] 32 (0, 0)) := by rw [hW0]; exact (Below.heap_alloc _ _ _ (by omega)).trans h3B
  have hm0 : W0.heap[N + 1]? = some (.cells #[] 24 (0, 0)) := by rw [hW0, hWB]; exact (Below.heap_alloc _ _ _ (by rw [← hWB]; omega)).trans ((Below.heap_alloc _ _ _ (by omega)).trans hmA)
  have h20 : W0.heap[N]? = some (.cells #[.slice none 0 0, .slice none 0 0] 34 (0, 0)) := by rw [hW0, hWB, hWA]; exact (Below.heap_alloc _ _ _ (by rw [← hWA, ← hWB]; omega)).trans ((Below.heap_alloc _ _ _ (by rw [← hWA]; omega)).trans ((Below.heap_alloc _ _ _ (by omega)).trans h62))
  have hB0 : Below N w W0 := by rw [hW0, hWB, hWA]; exact ((b6.alloc (by omega) _).alloc (by rw [← hWA]; omega) _).alloc (by rw [← hWA, ← hWB]; omega) _
  have hS0 : Kd.S (Kd.slice 3 (Kd.int .i64)) 24 W0 N (fun k => k ≠ N ∧ k ≠ N + 2 ∧ k ≠ N + 3) (.slice (some ⟨N + 1, 0, none⟩) 0 0) [] := S_empty hm0 (by omega) ⟨by omega, by omega, by omega⟩
  refine wpIn_rangeFunc_ownF rfl (by decide) (gf := 87) (lb := #[.pointer (some ⟨N + 3, 0, none⟩)]) rfl trivial (enters_of Try.func87 (by kernel_rfl) rfl)
    (back_stops (fun x : Num9 => #[.int .i64 (x.1.1 : Int), .int .i64 x.1.2]) (numEl l0) Fence.wide 2 trivial rfl (by decide) (N + 3) N A0 c0 l0 w W0 hN HR.out (fun k hk => by simp only [numEl_enc H9.out k hk]) hB0 (by omega) hs0)
    backKeeps_t (backKeeps_b (by omega) (by omega)) (Below.refl _ _) (fun _ => rfl)
    (fun pre W => (∃ v, Kd.S (Kd.slice 3 (Kd.int .i64)) 24 W N (fun k => k ≠ N ∧ k ≠ N + 2 ∧ k ≠ N + 3) v ((pre.map fun x => x.1.2).foldl insCols []) ∧ W.heap[N + 2]? = some (.cells #[v] 32 (0, 0)) ∧ W.heap[N]? = some (.cells #[.slice none 0 0, .slice none 0 0] 34 (0, 0)) ∧ N + 4 ≤ W.heap.size) ∧ Below N w W)
    (fun c pre W => False)
    (OwnFrom.and (Own.from (fun s A B row hs hg hr => by
      obtain ⟨v, h1, h2, h3, h4⟩ := hs
      exact ⟨v, S_keptC h1 hg hr, blk_keptC h2 hg hr, blk_keptC h3 hg hr, Nat.le_trans h4 hg.size⟩) _) (ownFrom_below (by omega) (by omega)))
    (fun c => Own.from (fun s A B row hs hg hr => hs) _)
    ⟨⟨_, hS0, h30, h20, by omega⟩, hB0⟩
    (fun x => { tmps := #[.slice A0 l0.length c0, undef, .pointer (some ⟨N, 0, none⟩), .bool false, .pointer (some ⟨N + 1 + 1, 0, none⟩), undef, .int .i64 x.1.2, .slice A0 l0.length c0, .bool true, .bool false, undef, .slice (some ⟨N + 1, 0, none⟩) 0 0, .slice A0 l0.length c0, .func (.func 87) #[] #[.pointer (some ⟨N + 1 + 1 + 1, 0, none⟩)], .int .i64 (x.1.1 : Int), .int .i64 x.1.2, undef, undef, undef, undef, undef], defers := [] }) ?assign ?body ?done ?stop
  case assign =>
    intro l x W K hK
    clear hN
    gi_wp2
    exact hK
  case body =>
    rintro l pre ⟨⟨i, n⟩, hn1, hn9⟩ W ⟨⟨v, hS, hbx, h2, hsz⟩, hB⟩ hpre
    simp only at hn1 hn9
    have hHL := HL.out
    obtain ⟨C, hC⟩ : ∃ C, C = (pre.map fun x => x.1.2).foldl insCols [] := ⟨_, rfl⟩
    have hCb : C.length ≤ 1000 ∧ ∀ c ∈ C, c.length ≤ 1000 := by
      have h := colC_bd (pre.map fun x : Num9 => x.1.2).reverse
      unfold colC at h
      rw [List.reverse_reverse, List.length_reverse, List.length_map, ← hC] at h
      have : pre.length ≤ 9 := by omega
      exact ⟨by omega, fun c hc => by have := h.2 c hc; omega⟩
    rw [← hC] at hS
    obtain ⟨Av, cv, rfl⟩ := Kd.R_slice (Kd.S_R hS)
    have hS' := Kd.S_bound hS
    have hty : ∀ k, ((k ≠ N ∧ k ≠ N + 2 ∧ k ≠ N + 3) ∧ N ≤ k ∧ k < W.heap.size ∧ ∃ q, q ∈ 24 :: (Kd.slice 3 (Kd.int .i64)).E ∧ ∃ cells, W.heap[k]? = some (.cells cells q (0, 0))) → ∃ cells q, W.heap[k]? = some (.cells cells q (0, 0)) := fun k hk => by
      obtain ⟨_, _, _, q, _, cells, hc⟩ := hk
      exact ⟨cells, q, hc⟩
    have HCALL := Aside0.mk (insertBelow_calls w W (.slice Av C.length cv) C n _ (by rw [← hN]; exact hB) (by rw [← hN]; exact hS') hCb.1 hCb.2)
    have hc3 : W.cell? ⟨N + 1 + 1, 0, none⟩ = some (.slice Av C.length cv) := (blk_cell hbx 0).trans rfl
    have HX := Aside0.mk (And.intro hty (And.intro hbx (And.intro h2 (And.intro hsz (And.intro hB hC)))))
    have HN := Aside0.mk hN
    clear hN s6 e6 hWA hWB hW0 sA sB s0 hmA h3B hs0 h30 hm0 h20 hB0 b6 h62 hS0 hty hbx h2 hsz hB hC hS hS' hCb hpre hHL
    gi_wp2_with (first
      | (gi_at_call 65; refine (callsIn_wide.2 HCALL.out).mono ?_; rintro e w1 ⟨v1, rfl, hS1, hB1, hK1⟩; obtain ⟨A1, c1, rfl⟩ := Kd.R_slice (Kd.S_R hS1); have hb1 : w1.heap[N + 2]? = some (.cells #[.slice Av C.length cv] 32 (0, 0)) := (hK1.2 (N + 2) (blk_lt HX.out.2.1) (fun h => h.1.2.1 rfl)).trans HX.out.2.1; have hc1 : w1.cell? ⟨N + 1 + 1, 0, none⟩ = some (.slice Av C.length cv) := (blk_cell hb1 0).trans rfl; have hf1 : w1.frozen? ⟨N + 1 + 1, 0, none⟩ = false := blk_frozen hb1 0; have HW1 := Aside0.mk (And.intro hS1 (And.intro hB1 (And.intro hK1 hb1))); clear hS1 hB1 hK1 hb1)
      | (refine ⟨trivial, ?_⟩; gi_at_call 65; refine (callsIn_wide.2 HCALL.out).mono ?_; rintro e w1 ⟨v1, rfl, hS1, hB1, hK1⟩; obtain ⟨A1, c1, rfl⟩ := Kd.R_slice (Kd.S_R hS1); have hb1 : w1.heap[N + 2]? = some (.cells #[.slice Av C.length cv] 32 (0, 0)) := (hK1.2 (N + 2) (blk_lt HX.out.2.1) (fun h => h.1.2.1 rfl)).trans HX.out.2.1; have hc1 : w1.cell? ⟨N + 1 + 1, 0, none⟩ = some (.slice Av C.length cv) := (blk_cell hb1 0).trans rfl; have hf1 : w1.frozen? ⟨N + 1 + 1, 0, none⟩ = false := blk_frozen hb1 0; have HW1 := Aside0.mk (And.intro hS1 (And.intro hB1 (And.intro hK1 hb1))); clear hS1 hB1 hK1 hb1))
    obtain ⟨hS1, hB1, hK1, hb1⟩ := HW1.out
    obtain ⟨hty, hbx, h2, hsz, hB, hC⟩ := HX.out
    have hNN := HN.out
    rw [← hNN] at hS1 hB1
    have hBW : Below N W w1 := ⟨hB1.os.trans hB.os.symm, hB1.tape.trans hB.tape.symm, hB1.output.trans hB.output.symm, hK1.1, fun k hk => (hB1.block k hk).trans (hB.block k hk).symm⟩
    have e : ((pre ++ [(⟨(i, n), hn1, hn9⟩ : Num9)]).map fun x => x.1.2).foldl insCols [] = insCols C n := by rw [List.map_append, List.foldl_append, ← hC]; rfl
    refine ⟨(others_kept hK1 hty).trans (KeepsOthers.setCell _ _ _), ⟨hBW.setCell (p := ⟨N + 2, 0, none⟩) (show N ≤ N + 2 by omega) _, fun hlt => (Below.heap_setCell _ _ _ _ (show N + 3 ≠ N + 2 by omega)).trans (hK1.2 (N + 3) hlt (fun h => h.1.2.2 rfl)), Nat.le_trans hK1.1 (by simp [World.setCell])⟩, ⟨_, ?_, blk_put hb1 0 _ rfl, (Below.heap_setCell _ _ _ _ (show N ≠ N + 2 by omega)).trans ((hK1.2 N (blk_lt h2) (fun h => h.1.1 rfl)).trans h2), Nat.le_trans hsz (Nat.le_trans hK1.1 (by simp [World.setCell]))⟩, (hB.trans hBW).setCell (p := ⟨N + 2, 0, none⟩) (show N ≤ N + 2 by omega) _⟩
    rw [e]
    have hok : ∀ k, ((((k ≠ N ∧ k ≠ N + 2 ∧ k ≠ N + 3) ∧ N ≤ k ∧ k < W.heap.size ∧ ∃ q, q ∈ 24 :: (Kd.slice 3 (Kd.int .i64)).E ∧ ∃ cells, W.heap[k]? = some (.cells cells q (0, 0))) ∨ W.heap.size ≤ k)) → k ≠ N ∧ k ≠ N + 2 ∧ k ≠ N + 3 := fun k hk => by
      rcases hk with hk | hk
      · exact hk.1
      · exact ⟨by omega, by omega, by omega⟩
    exact Kd.S_far (p := ⟨N + 2, 0, none⟩) (Kd.S_mono hS1 hok) (fun k hk => hk.2.1) _
  case done =>
    rintro D ys W hD hys ⟨⟨v, hS, hbx, h2, hsz⟩, hB⟩ hK
    have hall : (ys.map fun x => x.1.2).foldl insCols [] = colC l0 := by
      rw [hys, num_came H9.out l0.length (Nat.le_refl _), List.take_of_length_le (by rw [List.length_reverse]; exact Nat.le_refl _)]; rfl
    rw [hall] at hS
    obtain ⟨Av, cv, rfl⟩ := Kd.R_slice (Kd.S_R hS)
    obtain ⟨q1, q2⟩ := colC_bd l0
    have hl9 := HL.out
    obtain ⟨K0, hK0⟩ := impl_ofColumns_ev (colC l0) (by omega) (fun r hr => by have := q2 r hr; omega)
    rw [H2.out] at hK0
    have hread := Kd.R_reads' (Kd.S_R hS)
    obtain ⟨C, hC⟩ : ∃ C, C = colC l0 := ⟨_, rfl⟩
    rw [← hC] at hread hK0 hbx hS
    have hc3 : W.cell? ⟨N + 1 + 1, 0, none⟩ = some (.slice Av C.length cv) := (blk_cell hbx 0).trans rfl
    have HCALL := Aside0.mk (impl_ofColumns.calls K0 Av cv C [] r2 W hread.2.2 hread.2.1 (hK0 K0 (Nat.le_refl _)))
    have HN := Aside0.mk hN
    have HX := Aside0.mk (And.intro hB (And.intro hD (And.intro s0 (And.intro hsz (And.intro h2 hK)))))
    clear hN s6 e6 hWA hWB hW0 sA sB s0 hmA h3B hs0 h30 hm0 h20 hB0 b6 h62 hS0 hS hB hD hall hys hbx hsz h2 hK hK0 hread q1 q2 hl9 hC
    gi_wp2_with (first
      | (gi_at_call 66; refine (callsIn_wide.2 HCALL.out).mono ?_; rintro e w1 ⟨u0, u1, rfl, hR1, hS1, hB1⟩; obtain ⟨A1, c1, rfl⟩ := Kd.R_slice hR1; obtain ⟨A2, c2, rfl⟩ := Kd.R_slice (Kd.S_R hS1); have hb1 := (hB1.block N (blk_lt HX.out.2.2.2.2.1)).trans HX.out.2.2.2.2.1; have hz0 : w1.cell? ⟨N, 0, none⟩ = some (.slice none 0 0) := (blk_cell hb1 0).trans rfl; have hz1 : w1.cell? ⟨N, 1, none⟩ = some (.slice none 0 0) := (blk_cell hb1 1).trans rfl; have hf0 : w1.frozen? ⟨N, 0, none⟩ = false := blk_frozen hb1 0; have hf1 : w1.frozen? ⟨N, 1, none⟩ = false := blk_frozen hb1 1; have HW1 := Aside0.mk (And.intro hR1 (And.intro hS1 (And.intro hB1 hb1))); clear hR1 hS1 hB1 hb1)
      | (refine ⟨trivial, ?_⟩; gi_at_call 66; refine (callsIn_wide.2 HCALL.out).mono ?_; rintro e w1 ⟨u0, u1, rfl, hR1, hS1, hB1⟩; obtain ⟨A1, c1, rfl⟩ := Kd.R_slice hR1; obtain ⟨A2, c2, rfl⟩ := Kd.R_slice (Kd.S_R hS1); have hb1 := (hB1.block N (blk_lt HX.out.2.2.2.2.1)).trans HX.out.2.2.2.2.1; have hz0 : w1.cell? ⟨N, 0, none⟩ = some (.slice none 0 0) := (blk_cell hb1 0).trans rfl; have hz1 : w1.cell? ⟨N, 1, none⟩ = some (.slice none 0 0) := (blk_cell hb1 1).trans rfl; have hf0 : w1.frozen? ⟨N, 0, none⟩ = false := blk_frozen hb1 0; have hf1 : w1.frozen? ⟨N, 1, none⟩ = false := blk_frozen hb1 1; have HW1 := Aside0.mk (And.intro hR1 (And.intro hS1 (And.intro hB1 hb1))); clear hR1 hS1 hB1 hb1))
    obtain ⟨hB, hD, s0, hsz, h2, hK⟩ := HX.out
    obtain ⟨hR1, hS1, hB1, hb1⟩ := HW1.out
    have hlN := blk_lt h2
    have hlD := (Array.getElem?_eq_some_iff.1 hK).1
    have hR2 := Kd.R_far (p := ⟨N, 1, none⟩) (Kd.R_far (p := ⟨N, 0, none⟩) (Kd.R_bound hR1) (fun k hk => by have := hk.2.1; show k ≠ N; omega) (.slice A1 0 c1)) (fun k hk => by have := hk.2.1; show k ≠ N; omega) (.slice A2 r2.length c2)
    have hS2 := Kd.S_far (p := ⟨N, 1, none⟩) (Kd.S_far (p := ⟨N, 0, none⟩) (Kd.S_bound hS1) (fun k hk => by have := hk.2.1; show k ≠ N; omega) (.slice A1 0 c1)) (fun k hk => by have := hk.2.1; show k ≠ N; omega) (.slice A2 r2.length c2)
    have hB2 : Below N w ((w1.setCell ⟨N, 0, none⟩ (.slice A1 0 c1)).setCell ⟨N, 1, none⟩ (.slice A2 r2.length c2)) := ((hB.trans (hB1.mono (Nat.le_of_lt hlN))).setCell (p := ⟨N, 0, none⟩) (Nat.le_refl N) _).setCell (p := ⟨N, 1, none⟩) (Nat.le_refl N) _
    have hK1 : w1.heap[D]? = some (.deferred (some [])) := (hB1.block D hlD).trans hK
    have hK2 : ((w1.setCell ⟨N, 0, none⟩ (.slice A1 0 c1)).setCell ⟨N, 1, none⟩ (.slice A2 r2.length c2)).heap[D]? = some (.deferred (some [])) := (Below.heap_setCell _ _ _ _ (show D ≠ N by omega)).trans ((Below.heap_setCell _ _ _ _ (show D ≠ N by omega)).trans hK1)
    have hb2 : ((w1.setCell ⟨N, 0, none⟩ (.slice A1 0 c1)).setCell ⟨N, 1, none⟩ (.slice A2 r2.length c2)).heap[N]? = some (.cells #[.slice A1 0 c1, .slice A2 r2.length c2] 34 (0, 0)) := blk_put (blk_put hb1 0 _ rfl) 1 _ rfl
    obtain ⟨w2, hw2⟩ : ∃ w2, w2 = (w1.setCell ⟨N, 0, none⟩ (.slice A1 0 c1)).setCell ⟨N, 1, none⟩ (.slice A2 r2.length c2) := ⟨_, rfl⟩
    rw [← hw2] at hR2 hS2 hB2 hK2 hb2
    rw [← hw2]
    have hb3 : (w2.putObj D (.deferred none)).heap[N]? = some (.cells #[.slice A1 0 c1, .slice A2 r2.length c2] 34 (0, 0)) := blk_keptC hb2 (grownBy_putObj' _ D (.deferred none)) (fun r e => by cases e; exact ⟨_, hK2, rfl⟩)
    have hr0 : (w2.putObj D (.deferred none)).cell? ⟨N, 0, none⟩ = some (.slice A1 0 c1) := (blk_cell hb3 0).trans rfl
    have hr1 : (w2.putObj D (.deferred none)).cell? ⟨N, 1, none⟩ = some (.slice A2 r2.length c2) := (blk_cell hb3 1).trans rfl
    have hR3 := R_keptOn hR2 (grownBy_putObj' _ D (.deferred none)) (fun r e => by cases e; exact ⟨_, hK2, rfl⟩)
    have hS3 := S_keptC hS2 (grownBy_putObj' _ D (.deferred none)) (fun r e => by cases e; exact ⟨_, hK2, rfl⟩)
    have hB3 : Below N w (w2.putObj D (.deferred none)) := hB2.grown (grownBy_putObj' _ D (.deferred none)) (Nat.le_trans (show N ≤ D by omega) (Nat.le_of_lt (Array.getElem?_eq_some_iff.1 hK2).1)) (fun k e => by cases e; omega)
    refine ⟨by simp, .inl ⟨_, _, rfl, run_takeDeferred hK2, ?_⟩⟩
    refine ⟨.tuple #[.agg #[.slice A1 0 c1, .slice A2 r2.length c2], .bool true], ?_, _, _, rfl, ?_, ?_, ?_⟩
    · simp [results, Try.f38, go_sem, hr0, hr1]
    · rw [← HN.out]
      exact Kd.R_mono (Kd.R_lower hR3 (show N ≤ W.heap.size by omega)) (fun _ _ => trivial)
    · rw [← HN.out]
      exact Kd.S_mono (Kd.S_lower hS3 (show N ≤ W.heap.size by omega)) (fun k hk => hk.1)
    · rw [← HN.out]
      exact hB3
  case stop =>
    rintro D c pre W hD hpre hF hK
    exact hF.elim
set_option maxHeartbeats 4000000 in
set_option maxRecDepth 100000 in
theorem columnTableau_not (A0 : Option Addr) (c0 : Nat) (l0 : List Int) (w : World) (hr0 : Kd.C (Kd.int .i64) w A0 l0.length l0) (hc0 : l0.length ≤ c0) (hw : impl_IsWord.f l0 = some false) :
    CallsIn Fence.wide 3 Try.prog 38 #[.slice A0 l0.length c0] w fun e w' => ∃ v0_ v1_ : Value, e = .returned (.tuple #[.agg #[v0_, v1_], .bool false]) ∧ Kd.R (Kd.int .i64) 3 w' w.heap.size (fun _ => True) v0_ [] ∧ Kd.S (Kd.slice 3 (Kd.int .i64)) 24 w' w.heap.size (fun k_ => some k_ ≠ (v0_ : Value).ownBlock) v1_ [] ∧ Below w.heap.size w w' := by
  have HR := Aside0.mk hr0
  have HC := Aside0.mk hc0
  have HW := Aside0.mk hw
  clear hr0 hc0 hw
  refine callsIn_of_wp_marks Try.func38 rfl trivial ?_ rfl
  simp only [Try.ntmps38, List.size_toArray, List.length_cons, List.length_nil, Nat.reduceAdd, Nat.reduceSub, Array.replicate_succ, Array.replicate_zero, List.push_toArray, List.append_toArray, List.nil_append, List.cons_append]
  obtain ⟨N, hN⟩ : ∃ N, N = w.heap.size := ⟨_, rfl⟩
  have hb0 := blk_new w (.cells #[.slice none 0 0, .slice none 0 0] 34 (0, 0))
  have hB1 : Below N w (w.alloc (.cells #[.slice none 0 0, .slice none 0 0] 34 (0, 0))) := by rw [hN]; exact (Below.refl _ w).alloc (Nat.le_refl _) _
  rw [← hN] at hb0
  have HB1 := Aside0.mk hB1
  have HB0 := Aside0.mk hb0
  have HN := Aside0.mk hN
  clear hB1 hb0 hN
  gi_wp2_with (refine ⟨trivial, ?_⟩; gi_at_call 44; refine (callsIn_wide.2 (impl_IsWord.calls A0 c0 l0 false (w.alloc (.cells #[.slice none 0 0, .slice none 0 0] 34 (0, 0))) (Kd.C_alloc HR.out _) HC.out HW.out)).mono ?_; rintro e w6 ⟨rfl, hd⟩; obtain ⟨q, hd⟩ := hd.out; subst hd; rw [← HN.out]; have hcN : ((w.alloc (.cells #[.slice none 0 0, .slice none 0 0] 34 (0, 0))).drewN q).cell? ⟨N, 0, none⟩ = some (.slice none 0 0) := (blk_cell (blk_drewN HB0.out q) 0).trans rfl; have hcM : ((w.alloc (.cells #[.slice none 0 0, .slice none 0 0] 34 (0, 0))).drewN q).cell? ⟨N, 1, none⟩ = some (.slice none 0 0) := (blk_cell (blk_drewN HB0.out q) 1).trans rfl; have hfN : ((w.alloc (.cells #[.slice none 0 0, .slice none 0 0] 34 (0, 0))).drewN q).frozen? ⟨N, 0, none⟩ = false := blk_frozen (blk_drewN HB0.out q) 0; have hfM : ((w.alloc (.cells #[.slice none 0 0, .slice none 0 0] 34 (0, 0))).drewN q).frozen? ⟨N, 1, none⟩ = false := blk_frozen (blk_drewN HB0.out q) 1)
  have hb2 := blk_put (blk_put (blk_drewN HB0.out q) 0 (.slice none 0 0) rfl) 1 (.slice none 0 0) rfl
  have hr0 := (blk_cell hb2 0).trans rfl
  have hr1 := (blk_cell hb2 1).trans rfl
  refine ⟨.tuple #[.agg #[.slice none 0 0, .slice none 0 0], .bool false], ?_, _, _, rfl, Kd.R_nil _ _ _ _ _, Kd.S_nil _ _ _ _ _, ?_⟩
  · simp [results, Try.f38, go_sem, hr0, hr1]
  · rw [← HN.out]
    exact ((below_drewN' HB1.out q).setCell (p := ⟨N, 0, none⟩) (Nat.le_refl N) _).setCell (p := ⟨N, 1, none⟩) (Nat.le_refl N) _
end
def impl_ColumnTableau.f (l0 : List Int) : Option (List Int × List (List Int) × Bool) := some (colT l0)
theorem impl_ColumnTableau.calls (A0 : Option Addr) (c0 : Nat) (l0 : List Int) (r1 : List Int) (r2 : List (List Int)) (r3 : Bool) (w : World) (hr0 : Kd.C (Kd.int .i64) w A0 l0.length l0) (hc0 : l0.length ≤ c0) (h : impl_ColumnTableau.f l0 = some (r1, r2, r3)) :
  Calls Try.prog 38 #[.slice A0 l0.length c0] w fun e w' => ∃ v0_ v1_ : Value, e = .returned (.tuple #[.agg #[v0_, v1_], .bool r3]) ∧ Kd.R (Kd.int .i64) 3 w' w.heap.size (fun _ => True) v0_ r1 ∧ Kd.S (Kd.slice 3 (Kd.int .i64)) 24 w' w.heap.size (fun k_ => some k_ ≠ (v0_ : Value).ownBlock) v1_ r2 ∧ Below w.heap.size w w' := by
  unfold impl_ColumnTableau.f at h
  have h := Option.some.inj h
  unfold colT at h
  cases hw : isWord l0 with
  | false =>
    rw [if_neg (by rw [hw]; decide)] at h
    obtain ⟨rfl, rfl, rfl⟩ : r1 = [] ∧ r2 = [] ∧ r3 = false := by simpa [eq_comm] using h
    exact callsIn_wide.1 (columnTableau_not A0 c0 l0 w hr0 hc0 (by rw [impl_IsWord_eq, hw]))
  | true =>
    rw [if_pos hw] at h
    obtain ⟨rfl, e2, rfl⟩ : r1 = [] ∧ cols (colC l0) = r2 ∧ r3 = true := by simpa [eq_comm] using h
    obtain ⟨h9, hz⟩ := isWord_iff.1 hw
    exact callsIn_wide.1 (columnTableau_in A0 c0 l0 w hr0 hc0 (by rw [impl_IsWord_eq, hw]) hz h9 r2 e2)

theorem spec_ColumnTableau_st {w W : World} {L : List Ob} {v0 : Value} (l0 : List Int) {r1 : List Int} {r2 : List (List Int)} {r3 : Bool} (h : St w W L) (hr0 : Reads (Kd.int .i64) W v0 l0) (hE : Ev (fun k => spec_ColumnTableau.f k l0) (r1, r2, r3)) :
    Calls Try.prog 37 #[v0] W fun e W' => ∃ v0_ v1_ : Value, ∃ ok0 ok1, e = .returned (.tuple #[.agg #[v0_, v1_], .bool r3]) ∧ St w W' (obR (Kd.int .i64) 3 w ok0 v0_ r1 :: obS (Kd.slice 3 (Kd.int .i64)) 24 w ok1 v1_ r2 :: L) := by
  obtain ⟨A0, c0, rfl, hc0, hC0⟩ := hr0
  obtain ⟨K, hK⟩ := hE
  refine (spec_ColumnTableau.calls K A0 c0 l0 r1 r2 r3 W hC0 hc0 (hK K (Nat.le_refl _))).mono ?_
  rintro e W' ⟨v0_, v1_, rfl, o0, o1, hb⟩
  obtain ⟨ok0, ok1, h1⟩ := St.addRS rfl h hb o0 o1
  exact ⟨v0_, v1_, ok0, ok1, rfl, h1⟩
theorem impl_ColumnTableau_st {w W : World} {L : List Ob} {v0 : Value} (l0 : List Int) {r1 : List Int} {r2 : List (List Int)} {r3 : Bool} (h : St w W L) (hr0 : Reads (Kd.int .i64) W v0 l0) (hE : impl_ColumnTableau.f l0 = some (r1, r2, r3)) :
    Calls Try.prog 38 #[v0] W fun e W' => ∃ v0_ v1_ : Value, ∃ ok0 ok1, e = .returned (.tuple #[.agg #[v0_, v1_], .bool r3]) ∧ St w W' (obR (Kd.int .i64) 3 w ok0 v0_ r1 :: obS (Kd.slice 3 (Kd.int .i64)) 24 w ok1 v1_ r2 :: L) := by
  obtain ⟨A0, c0, rfl, hc0, hC0⟩ := hr0
  refine (impl_ColumnTableau.calls A0 c0 l0 r1 r2 r3 W hC0 hc0 hE).mono ?_
  rintro e W' ⟨v0_, v1_, rfl, o0, o1, hb⟩
  obtain ⟨ok0, ok1, h1⟩ := St.addRS rfl h hb o0 o1
  exact ⟨v0_, v1_, ok0, ok1, rfl, h1⟩
/-- What the law comes to: both sides compute one value. -/
def FnExactColumnTableau.Pure : Prop := ∀ (l0 : List Int), (l0.length ≤ maxLen) → (∀ n ∈ l0, (Lit.int .i64 n).wf = true) → (l0.length ≤ 1048576) → ∃ (qr1 : List Int) (qr2 : List (List Int)) (qr3 : Bool), Ev (fun k => spec_ColumnTableau.f k l0) (qr1, qr2, qr3) ∧ impl_ColumnTableau.f l0 = some (qr1, qr2, qr3) ∧ qr1.length ≤ 576460752303423488 ∧ qr2.length ≤ 576460752303423488 ∧ bulk qr2 ≤ 576460752303423488
set_option maxHeartbeats 8000000 in
set_option maxRecDepth 100000 in
theorem FnExactColumnTableau.walk (P : FnExactColumnTableau.Pure) (A0 : Option Addr) (c0 : Nat) (l0 : List Int) (w : World) (hr0 : Kd.C (Kd.int .i64) w A0 l0.length l0) (hc0 : l0.length ≤ c0) (m0 : l0.length ≤ maxLen) (y0 : ∀ n ∈ l0, (Lit.int .i64 n).wf = true) :
    Calls Try.prog 9 #[.slice A0 l0.length c0] w fun e w' => e = .returned (.bool true) ∧ Below w.heap.size w w' := by
  have H0 := Aside0.mk (St.start w)
  have C0 := Aside0.mk hr0
  by_cases s0 : l0.length ≤ 1048576
  case neg =>
    have b0 : decide (1048576 < (l0.length : Int)) = true := decide_eq_true (by omega)
    clear s0 hr0
    go_enter Try.func9, Try.ntmps9
    go_wp2
    go_ret
    exact ⟨by simp, H0.out.below⟩
  have b0 : decide (1048576 < (l0.length : Int)) = false := decide_eq_false (by omega)
  obtain ⟨qr1, qr2, qr3, hs, hi, e0, e1⟩ := P l0 m0 y0 (by omega)
  have F := Aside0.mk (And.intro (by omega : l0.length ≤ 1048576) (And.intro e0 (e1)))
  have Hs := Aside0.mk hs
  have Hi := Aside0.mk hi
  clear hs hi e0 e1 hr0 m0 y0
  clear P s0
  go_enter Try.func9, Try.ntmps9
  go_wp2_with (go_at_call 26; (with_reducible refine (toIntS_st H0.out (H0.out.came C0.out hc0) (by have f_ := F.out; omega)).mono ?_); rintro e w1 ⟨v1, ok1, rfl, h_⟩; have H1 := Aside0.mk h_; clear h_ H0)
  go_wp2_with (go_at_call 37; (with_reducible refine (spec_ColumnTableau_st _ H1.out (H1.out.readR 0 rfl) Hs.out).mono ?_); rintro e w2 ⟨v2_0, v2_1, ok2_0, ok2_1, rfl, h_⟩; have H2 := Aside0.mk h_; clear h_ H1; obtain ⟨Aq2_0, cq2_0, rfl, _, _⟩ := H2.out.readR 0 rfl; obtain ⟨Aq2_1, cq2_1, rfl, _, _⟩ := H2.out.readS 1 rfl; have HB2 := Aside0.mk (St.box H2.out #[.slice Aq2_0 qr1.length cq2_0, .slice Aq2_1 qr2.length cq2_1] 34); clear H2)
  go_wp2_with (go_at_call 26; (with_reducible refine (toIntS_st HB2.out (HB2.out.came C0.out hc0) (by have f_ := F.out; omega)).mono ?_); rintro e w3 ⟨v3, ok3, rfl, h_⟩; have H3 := Aside0.mk h_; clear h_ HB2)
  go_wp2_with (go_at_call 38; (with_reducible refine (impl_ColumnTableau_st _ H3.out (H3.out.readR 0 rfl) Hi.out).mono ?_); rintro e w4 ⟨v4_0, v4_1, ok4_0, ok4_1, rfl, h_⟩; have H4 := Aside0.mk h_; clear h_ H3; obtain ⟨Aq4_0, cq4_0, rfl, _, _⟩ := H4.out.readR 0 rfl; obtain ⟨Aq4_1, cq4_1, rfl, _, _⟩ := H4.out.readS 1 rfl; have HB4 := Aside0.mk (St.box H4.out #[.slice Aq4_0 qr1.length cq4_0, .slice Aq4_1 qr2.length cq4_1] 34); clear H4; have z4_0_0 : (w4.alloc (.cells #[.slice Aq4_0 qr1.length cq4_0, .slice Aq4_1 qr2.length cq4_1] 34 (0, 0))).cell? ⟨w4.heap.size, 0, none⟩ = some (.slice Aq4_0 qr1.length cq4_0) := St.cellB HB4.out 0 rfl 0 rfl; have z4_0_1 : (w4.alloc (.cells #[.slice Aq4_0 qr1.length cq4_0, .slice Aq4_1 qr2.length cq4_1] 34 (0, 0))).cell? ⟨w4.heap.size, 1, none⟩ = some (.slice Aq4_1 qr2.length cq4_1) := St.cellB HB4.out 0 rfl 1 rfl; have z4_4_0 : (w4.alloc (.cells #[.slice Aq4_0 qr1.length cq4_0, .slice Aq4_1 qr2.length cq4_1] 34 (0, 0))).cell? ⟨w2.heap.size, 0, none⟩ = some (.slice Aq2_0 qr1.length cq2_0) := St.cellB HB4.out 4 rfl 0 rfl; have z4_4_1 : (w4.alloc (.cells #[.slice Aq4_0 qr1.length cq4_0, .slice Aq4_1 qr2.length cq4_1] 34 (0, 0))).cell? ⟨w2.heap.size, 1, none⟩ = some (.slice Aq2_1 qr2.length cq2_1) := St.cellB HB4.out 4 rfl 1 rfl)
  go_wp2_with (go_at_call 31; (with_reducible refine (eqTableau_st_same HB4.out (HB4.out.readR 1 rfl) (HB4.out.readS 2 rfl) (HB4.out.readR 5 rfl) (HB4.out.readS 6 rfl) (by have f_ := F.out; omega) (by have f_ := F.out; omega) (fun r h_ => by have f_ := F.out; have := bulk_mem h_; omega)).mono ?_); rintro e w5 ⟨rfl, h_⟩; have H5 := Aside0.mk h_; clear h_ HB4 z4_0_0 z4_0_1 z4_4_0 z4_4_1)
  go_wp2_with (go_at_call 26; (with_reducible refine (toIntS_st H5.out (H5.out.came C0.out hc0) (by have f_ := F.out; omega)).mono ?_); rintro e w6 ⟨v6, ok6, rfl, h_⟩; have H6 := Aside0.mk h_; clear h_ H5)
  go_wp2_with (go_at_call 28; (with_reducible refine (eqIntS_st_same H6.out (H6.out.readR 4 rfl) (H6.out.readR 0 rfl) (by have f_ := F.out; omega)).mono ?_); rintro e w7 ⟨rfl, h_⟩; have H7 := Aside0.mk h_; clear h_ H6)
  go_wp2_with (go_at_call 32; (refine (markIntS_st (L' := [obR (Kd.int .i64) 3 w ok6 v6 l0, obB w4.heap.size #[.slice Aq4_0 qr1.length cq4_0, .slice Aq4_1 qr2.length cq4_1] 34, obR (Kd.int .i64) 3 w ok4_0 (.slice Aq4_0 qr1.length cq4_0) qr1, obS (Kd.slice 3 (Kd.int .i64)) 24 w ok4_1 (.slice Aq4_1 qr2.length cq4_1) qr2, obR (Kd.int .i64) 3 w ok3 v3 (marks 1 l0.length), obB w2.heap.size #[.slice Aq2_0 qr1.length cq2_0, .slice Aq2_1 qr2.length cq2_1] 34, obR (Kd.int .i64) 3 w ok2_0 (.slice Aq2_0 qr1.length cq2_0) qr1, obS (Kd.slice 3 (Kd.int .i64)) 24 w ok2_1 (.slice Aq2_1 qr2.length cq2_1) qr2, obR (Kd.int .i64) 3 w ok1 v1 l0]) H7.out 4 rfl 1 (by have f_ := F.out; omega) (by have f_ := F.out; omega) rfl).mono ?_); rintro e w8 ⟨rfl, h_⟩; have H8 := Aside0.mk h_; clear h_ H7; have z8_1_0 : w8.cell? ⟨w4.heap.size, 0, none⟩ = some (.slice Aq4_0 qr1.length cq4_0) := St.cellB H8.out 1 rfl 0 rfl; have z8_1_1 : w8.cell? ⟨w4.heap.size, 1, none⟩ = some (.slice Aq4_1 qr2.length cq4_1) := St.cellB H8.out 1 rfl 1 rfl; have z8_5_0 : w8.cell? ⟨w2.heap.size, 0, none⟩ = some (.slice Aq2_0 qr1.length cq2_0) := St.cellB H8.out 5 rfl 0 rfl; have z8_5_1 : w8.cell? ⟨w2.heap.size, 1, none⟩ = some (.slice Aq2_1 qr2.length cq2_1) := St.cellB H8.out 5 rfl 1 rfl)
  go_wp2_with (go_at_call 31; (with_reducible refine (eqTableau_st_same H8.out (H8.out.readR 2 rfl) (H8.out.readS 3 rfl) (H8.out.readR 6 rfl) (H8.out.readS 7 rfl) (by have f_ := F.out; omega) (by have f_ := F.out; omega) (fun r h_ => by have f_ := F.out; have := bulk_mem h_; omega)).mono ?_); rintro e w9 ⟨rfl, h_⟩; have H9 := Aside0.mk h_; clear h_ H8 z8_1_0 z8_1_1 z8_5_0 z8_5_1; have z9_1_0 : w9.cell? ⟨w4.heap.size, 0, none⟩ = some (.slice Aq4_0 qr1.length cq4_0) := St.cellB H9.out 1 rfl 0 rfl; have z9_1_1 : w9.cell? ⟨w4.heap.size, 1, none⟩ = some (.slice Aq4_1 qr2.length cq4_1) := St.cellB H9.out 1 rfl 1 rfl)
  go_wp2_with (go_at_call 33; (refine (markTableau_st (L' := [obR (Kd.int .i64) 3 w ok6 v6 l0, obB w4.heap.size #[.slice Aq4_0 qr1.length cq4_0, .slice Aq4_1 qr2.length cq4_1] 34, obR (Kd.int .i64) 3 w ok4_0 (.slice Aq4_0 qr1.length cq4_0) (marks 1 qr1.length), obS (Kd.slice 3 (Kd.int .i64)) 24 w ok4_1 (.slice Aq4_1 qr2.length cq4_1) (rowMarks (1 + qr1.length) qr2), obR (Kd.int .i64) 3 w ok3 v3 (marks 1 l0.length), obB w2.heap.size #[.slice Aq2_0 qr1.length cq2_0, .slice Aq2_1 qr2.length cq2_1] 34, obR (Kd.int .i64) 3 w ok2_0 (.slice Aq2_0 qr1.length cq2_0) qr1, obS (Kd.slice 3 (Kd.int .i64)) 24 w ok2_1 (.slice Aq2_1 qr2.length cq2_1) qr2, obR (Kd.int .i64) 3 w ok1 v1 l0]) H9.out 2 3 rfl (by decide) rfl 1 (by have f_ := F.out; omega) (by have f_ := F.out; omega) (by have f_ := F.out; omega) (by have f_ := F.out; omega) rfl).mono ?_); rintro e w10 ⟨rfl, h_⟩; have H10 := Aside0.mk h_; clear h_ H9 z9_1_0 z9_1_1; have z10_1_0 : w10.cell? ⟨w4.heap.size, 0, none⟩ = some (.slice Aq4_0 qr1.length cq4_0) := St.cellB H10.out 1 rfl 0 rfl; have z10_1_1 : w10.cell? ⟨w4.heap.size, 1, none⟩ = some (.slice Aq4_1 qr2.length cq4_1) := St.cellB H10.out 1 rfl 1 rfl)
  go_wp2_with (go_at_call 34; (refine (heldTableau_st H10.out qr1.length qr2 1 (H10.out.readR 2 rfl) (H10.out.readS 3 rfl) (by have f_ := F.out; omega) (by have f_ := F.out; omega) (by have f_ := F.out; omega) (by have f_ := F.out; omega)).mono ?_); rintro e w11 ⟨rfl, h_⟩; have H11 := Aside0.mk h_; clear h_ H10 z10_1_0 z10_1_1)
  go_wp2_with (go_at_call 26; (with_reducible refine (toIntS_st H11.out (H11.out.came C0.out hc0) (by have f_ := F.out; omega)).mono ?_); rintro e w12 ⟨v12, ok12, rfl, h_⟩; have H12 := Aside0.mk h_; clear h_ H11)
  go_wp2_with (go_at_call 38; (with_reducible refine (impl_ColumnTableau_st _ H12.out (H12.out.readR 0 rfl) Hi.out).mono ?_); rintro e w13 ⟨v13_0, v13_1, ok13_0, ok13_1, rfl, h_⟩; have H13 := Aside0.mk h_; clear h_ H12; obtain ⟨Aq13_0, cq13_0, rfl, _, _⟩ := H13.out.readR 0 rfl; obtain ⟨Aq13_1, cq13_1, rfl, _, _⟩ := H13.out.readS 1 rfl; have HB13 := Aside0.mk (St.box H13.out #[.slice Aq13_0 qr1.length cq13_0, .slice Aq13_1 qr2.length cq13_1] 34); clear H13; have z13_0_0 : (w13.alloc (.cells #[.slice Aq13_0 qr1.length cq13_0, .slice Aq13_1 qr2.length cq13_1] 34 (0, 0))).cell? ⟨w13.heap.size, 0, none⟩ = some (.slice Aq13_0 qr1.length cq13_0) := St.cellB HB13.out 0 rfl 0 rfl; have z13_0_1 : (w13.alloc (.cells #[.slice Aq13_0 qr1.length cq13_0, .slice Aq13_1 qr2.length cq13_1] 34 (0, 0))).cell? ⟨w13.heap.size, 1, none⟩ = some (.slice Aq13_1 qr2.length cq13_1) := St.cellB HB13.out 0 rfl 1 rfl; have z13_9_0 : (w13.alloc (.cells #[.slice Aq13_0 qr1.length cq13_0, .slice Aq13_1 qr2.length cq13_1] 34 (0, 0))).cell? ⟨w2.heap.size, 0, none⟩ = some (.slice Aq2_0 qr1.length cq2_0) := St.cellB HB13.out 9 rfl 0 rfl; have z13_9_1 : (w13.alloc (.cells #[.slice Aq13_0 qr1.length cq13_0, .slice Aq13_1 qr2.length cq13_1] 34 (0, 0))).cell? ⟨w2.heap.size, 1, none⟩ = some (.slice Aq2_1 qr2.length cq2_1) := St.cellB HB13.out 9 rfl 1 rfl)
  go_wp2_with (go_at_call 31; (with_reducible refine (eqTableau_st_same HB13.out (HB13.out.readR 1 rfl) (HB13.out.readS 2 rfl) (HB13.out.readR 10 rfl) (HB13.out.readS 11 rfl) (by have f_ := F.out; omega) (by have f_ := F.out; omega) (fun r h_ => by have f_ := F.out; have := bulk_mem h_; omega)).mono ?_); rintro e w14 ⟨rfl, h_⟩; have H14 := Aside0.mk h_; clear h_ HB13 z13_0_0 z13_0_1 z13_9_0 z13_9_1; have z14_5_0 : w14.cell? ⟨w4.heap.size, 0, none⟩ = some (.slice Aq4_0 qr1.length cq4_0) := St.cellB H14.out 5 rfl 0 rfl; have z14_5_1 : w14.cell? ⟨w4.heap.size, 1, none⟩ = some (.slice Aq4_1 qr2.length cq4_1) := St.cellB H14.out 5 rfl 1 rfl)
  go_wp2_with (go_at_call 34; (refine (heldTableau_st H14.out qr1.length qr2 1 (H14.out.readR 6 rfl) (H14.out.readS 7 rfl) (by have f_ := F.out; omega) (by have f_ := F.out; omega) (by have f_ := F.out; omega) (by have f_ := F.out; omega)).mono ?_); rintro e w15 ⟨rfl, h_⟩; have H15 := Aside0.mk h_; clear h_ H14 z14_5_0 z14_5_1)
  go_ret
  exact ⟨by simp, H15.out.below⟩
end Go.Proofs.Ytfijlemaiiobaaa.Walk
