/- For each Go function named below: the plain Lean function that it computes, and that its call returns just that; conditions: those that each theorem names. -/
import Derived.RangeFuncNested
import Derived.RangeFuncBound
import Derived.RangeFuncCalls
import Derived.RangeFuncLeaves
import Derived.RangeFuncFrom
import Derived.Shelf.RegionOpen
import Derived.OwnWalkIn
import Derived.TacticsInMore
import Derived.LoopNIn
import Derived.LoopIn
import Derived.Sort.BigQuietIn
import Derived.IntWalk
import Derived.Test.YtljjjdgnpnnmoaaF0
import Derived.Test.YtljjjdgnpnnmoaaF10
namespace Go.Proofs.Ytljjjdgnpnnmoaa.F
open Go.RowKit Go.Proofs.YtljjjdgnpnnmoaaW.PrintWords Go.Proofs.YtljjjdgnpnnmoaaW.PrintLast Go.Proofs.YtljjjdgnpnnmoaaW.PrintMore
attribute [local go_sem] max2_int min2_int max_two min_two max_three min_three max_four min_four   -- for this text's walks alone
set_option linter.unusedVariables false
set_option linter.unusedSimpArgs false

section
open Go.Shelf
attribute [local go_sem] Oper.semAt_some
def backToR {α : Type} (el : Nat → α) (k : Nat) : List α := (List.range k).map el
theorem backToR_succ {α : Type} (el : Nat → α) (k : Nat) : backToR el (k + 1) = backToR el k ++ [el k] := by simp [backToR, List.range_succ]
theorem backToR_length {α : Type} (el : Nat → α) (k : Nat) : (backToR el k).length = k := by simp [backToR]
def BackKeepsR (n₀ Bs : Nat) (A B : World) : Prop := Below n₀ A B ∧ (Bs < A.heap.size → B.heap[Bs]? = A.heap[Bs]?) ∧ A.heap.size ≤ B.heap.size
theorem backKeeps_reflR (n₀ Bs : Nat) (A : World) : BackKeepsR n₀ Bs A A := ⟨Below.refl _ _, fun _ => rfl, Nat.le_refl _⟩
theorem backKeeps_tR {n₀ Bs : Nat} {A B C : World} (h : BackKeepsR n₀ Bs A B) (k : BackKeepsR n₀ Bs B C) : BackKeepsR n₀ Bs A C :=
  ⟨h.1.trans k.1, fun hl => (k.2.1 (Nat.lt_of_lt_of_le hl h.2.2)).trans (h.2.1 hl), Nat.le_trans h.2.2 k.2.2⟩
theorem backKeeps_bR {n₀ Bs : Nat} {w : World} (hn : n₀ ≤ w.heap.size) (hb : Bs < w.heap.size) (W : World) (l : Nat) (o o' : Obj) (hl : w.heap.size ≤ l) (h : W.heap[l]? = some o) (_ : o.isCells = false) (_ : o.isWalk = false) : BackKeepsR n₀ Bs W (W.putObj l o') := by
  have g := grownBy_putObj' W l o'
  refine ⟨(Below.refl n₀ W).grown g (by have := (Array.getElem?_eq_some_iff.1 h).1; omega) (fun k e => by cases e; omega), fun hlt => g.block Bs hlt (fun e => by cases e; omega), g.size⟩
def BackAt (W0 : World) (A : Option Addr) (N k : Nat) (vs : Array Value) : Prop := ∃ A1 n1 c1 ad, vs = #[.int .i64 ((N - 1 - k : Nat) : Int), .slice A1 n1 c1] ∧ A = some ad ∧ W0.cell? (ad.add (N - 1 - k)) = some (.slice A1 n1 c1)
set_option maxRecDepth 100000 in
set_option maxHeartbeats 2000000 in
theorem back1r_in {α : Type} (encs : α → Array Value) (el : Nat → α) (F : Fence) (n : Nat) (hf : F.fn 77) (hro : F.round = none) (hn : 1 ≤ n) (l Bs n₀ : Nat) (A : Option Addr) (N cap : Nat) (W0 : World) (hn0 : n₀ = W0.heap.size) (hlen : N ≤ 9223372036854775807) (hel : ∀ k, k < N → BackAt W0 A N k (encs (el k))) (J Jx : List α → World → Prop)
    (hY : ∀ pre x W, J pre W → pre.length < N → YieldAt F (n - 1) Try.prog l (encs x) W fun e W' =>
      (e = .returned (.bool true) ∧ J (pre ++ [x]) W' ∧ BackKeepsR n₀ Bs W W') ∨ (e = .returned (.bool false) ∧ Jx (pre ++ [x]) W'))
    (W : World) (hW : Below n₀ W0 W) (hBs : W.heap[Bs]? = some (.cells #[.slice A N cap] 23 (0, 0))) (h0 : J [] W) :
    CallsIn F n Try.prog 77 #[.func (.yield l) #[] #[], .pointer (some ⟨Bs, 0, none⟩)] W fun e W' => (∃ v, e = .returned v) ∧
      ((∃ ys, ys = backToR el N ∧ J ys W') ∨ (∃ pre, (∃ k, k ≤ N ∧ pre = backToR el k) ∧ Jx pre W')) := by
  have HEL := Aside0.mk hel
  clear hel
  refine callsIn_of_wp Try.func77 rfl hf ?_ hro
  simp only [Try.ntmps77, List.size_toArray, List.length_cons, List.length_nil, Nat.reduceAdd, Nat.reduceSub, Array.replicate_succ, Array.replicate_zero, List.push_toArray, List.append_toArray, List.nil_append, List.cons_append]
  have hz0 : W.cell? ⟨Bs, 0, none⟩ = some (.slice A N cap) := (blk_cell hBs 0).trans rfl
  gi_wp2
  gi_loopw [3] (fun i wr => ∃ k : Nat, k ≤ N ∧ i = .int .i64 ((N : Int) - 1 - (k : Int)) ∧ J (backToR el k) wr ∧ BackKeepsR n₀ Bs W wr)
    (fun i _ => (intOf i + 1).toNat)
  case atStart => exact ⟨0, Nat.zero_le _, by go_num, h0, backKeeps_reflR _ _ _⟩
  case round =>
    obtain ⟨k, hk, rfl, hJs, hnx⟩ := hrel
    have hzr : wr.cell? ⟨Bs, 0, none⟩ = some (.slice A N cap) := (blk_cell ((hnx.2.1 (blk_lt hBs)).trans hBs) 0).trans rfl
    by_cases hlt : k < N
    · have hge : (0 : Int) ≤ (N : Int) - 1 - (k : Int) := by omega
      have hub : (N : Int) - 1 - (k : Int) < (N : Int) := by omega
      have hYk := hY _ (el k) wr hJs (by rw [backToR_length]; exact hlt)
      obtain ⟨A1, n1, c1, ad, he, hA, hx0⟩ := HEL.out k hlt
      subst hA
      rw [he] at hYk
      obtain ⟨fn, tmps, assign, body, hy, hR⟩ := hYk
      have et : ((N : Int) - 1 - (k : Int)).toNat = N - 1 - k := by omega
      have ei : ((N : Int) - 1 - (k : Int)) = ((N - 1 - k : Nat) : Int) := by omega
      have hx : wr.cell? (ad.add (N - 1 - k)) = some (.slice A1 n1 c1) := by
        refine ((hW.trans hnx.1).cell ?_).trans hx0
        rw [hn0]
        exact World.block_lt_of_cell? _ _ hx0
      gi_wp2
      refine hR.mono ?_
      rintro e W3 (⟨rfl, hJ3, hk3⟩ | ⟨rfl, hJx3⟩)
      · gi_wp2
        go_roundw
        case rel => exact ⟨k + 1, by omega, by go_num, by rw [backToR_succ]; exact hJ3, backKeeps_tR hnx hk3⟩
        case measure => simp [intOf]; omega
      · gi_wp2
        refine bodyPost_ret (results_none rfl _ _ _) rfl ?_
        exact ⟨⟨_, rfl⟩, .inr ⟨_, ⟨k + 1, by omega, by rw [backToR_succ]⟩, hJx3⟩⟩
    · obtain rfl : k = N := by omega
      have hneg : ¬ (0 : Int) ≤ (k : Int) - 1 - (k : Int) := by omega
      gi_wp2
      go_end0
      first | exact ⟨⟨_, rfl⟩, .inl ⟨_, rfl, hJs⟩⟩ | exact ⟨⟨_, rfl⟩, .inl hJs⟩
set_option maxHeartbeats 1000000 in
theorem backr_in (F : Fence) (n : Nat) (hf : F.fn 41) (hro : F.round = none) (A : Option Addr) (len cap : Nat) (w : World) :
    CallsIn F n Try.prog 41 #[.slice A len cap] w fun e w' => e = .returned (.func (.func 77) #[] #[.pointer (some ⟨w.heap.size, 0, none⟩)]) ∧ w' = w.alloc (.cells #[.slice A len cap] 23 (0, 0)) := by
  refine callsIn_of_wp Try.func41 rfl hf ?_ hro
  simp only [Try.ntmps41, List.size_toArray, List.length_cons, List.length_nil, Nat.reduceAdd, Nat.reduceSub, Array.replicate_succ, Array.replicate_zero, List.push_toArray, List.append_toArray, List.nil_append, List.cons_append]
  gi_wp2
  go_ret
  exact ⟨rfl, rfl⟩
theorem backr_stops {α : Type} (encs : α → Array Value) (el : Nat → α) (F : Fence) (n : Nat) (hf : F.fn 77) (hro : F.round = none) (hn : 1 ≤ n) (Bs n₀ : Nat) (A : Option Addr) (N cap : Nat) (W0 w : World) (hn0 : n₀ = W0.heap.size) (hlen : N ≤ 9223372036854775807)
    (hel : ∀ k, k < N → BackAt W0 A N k (encs (el k))) (hW : Below n₀ W0 w) (hnw : n₀ ≤ w.heap.size)
    (hBs : w.heap[Bs]? = some (.cells #[.slice A N cap] 23 (0, 0))) :
    SeqStopsK F n Try.prog 77 #[.pointer (some ⟨Bs, 0, none⟩)] encs (BackKeepsR n₀ Bs) (fun ys => ys = backToR el N)
      (fun pre => ∃ k, k ≤ N ∧ pre = backToR el k) N w := fun l J Jx W hWW _ _ hY h0 =>
  back1r_in encs el F n hf hro hn l Bs n₀ A N cap W0 hn0 hlen hel J Jx hY W (hW.trans (hWW.mono hnw)) ((hWW.block Bs (blk_lt hBs)).trans hBs) h0
end

section
open Go.Shelf
attribute [local go_sem] Oper.semAt_some
open BigFrame
def readAll (t : List (List Int)) : List Int := t.reverse.flatten
def impl_ReadingWord.f (k : Nat) (l0_0 : List Int) (l0_1 : List (List Int)) : Option (List Int) := (impl_IsTableau.f k l0_0 l0_1).bind fun b => if b = true then (if l0_1.length * l0_1.flatten.length < 17592186044416 then some (readAll l0_1) else none) else some []
theorem impl_ReadingWord.mono (l0_0 : List Int) (l0_1 : List (List Int)) (k : Nat) : LeO (impl_ReadingWord.f k l0_0 l0_1) (impl_ReadingWord.f (k + 1) l0_0 l0_1) := LeO.bind (impl_IsTableau.mono l0_0 l0_1 k) (fun _ => LeO.refl _)
abbrev RwRow (w : World) (b : Nat) := { x : Nat × Option Addr × Nat × List Int // x.2.2.2.length ≤ b ∧ x.2.2.2.length ≤ x.2.2.1 ∧ (Kd.int .i64).C w x.2.1 x.2.2.2.length x.2.2.2 }
def rwEnc {w : World} {b : Nat} (x : RwRow w b) : Array Value := #[.int .i64 (x.1.1 : Int), .slice x.1.2.1 x.1.2.2.2.length x.1.2.2.1]
def rwRow {w : World} {b : Nat} (x : RwRow w b) : List Int := x.1.2.2.2
theorem row_le_all {r : List Int} : ∀ {l : List (List Int)}, r ∈ l → r.length ≤ l.flatten.length
 | [], h => by cases h
 | s :: l, h => by
  rw [List.flatten_cons, List.length_append]
  rcases List.mem_cons.1 h with rfl | h
  ·omega
  ·have := row_le_all h
   omega
theorem rw_all_len {w : World} {b : Nat} : ∀ (pre : List (RwRow w b)), (pre.map rwRow).flatten.length ≤ pre.length * b
 | [] => by simp
 | x :: pre => by
  have h := rw_all_len pre
  have hx : (rwRow x).length ≤ b := x.2.1
  rw [List.map_cons, List.flatten_cons, List.length_append, List.length_cons, Nat.succ_mul]
  omega
theorem rwEl_ex {w : World} {A : Option Addr} {l : List (List Int)} (hC : Kd.C (Kd.slice 3 (Kd.int .i64)) w A l.length l) (k : Nat) : ∃ x : RwRow w l.flatten.length, k < l.length → BackAt w A l.length k (rwEnc x) ∧ l.reverse[k]? = some (rwRow x) := by
 by_cases hk : k < l.length
 ·have h1 : ((l.length - 1 - k : Nat) : Int) < (l.length : Int) := by omega
  obtain ⟨ad, A0, c0, e, hx, hl, hi⟩ := at_L1 hC ((l.length - 1 - k : Nat) : Int) (by omega) h1
  have er : rd_L1 l ((l.length - 1 - k : Nat) : Int) = l[l.length - 1 - k]'(by omega) := by unfold rd_L1; rw [Int.toNat_natCast, List.getD_eq_getElem?_getD, List.getElem?_eq_getElem (by omega)]; rfl
  rw [Int.toNat_natCast] at hx
  refine ⟨⟨(l.length - 1 - k, A0, c0, rd_L1 l ((l.length - 1 - k : Nat) : Int)), by rw [er]; exact row_le_all (List.getElem_mem _), hl, hi⟩, fun _ => ⟨⟨_, _, _, ad, rfl, e, hx⟩, ?_⟩⟩
  show _ = some (rd_L1 l _)
  rw [er, List.getElem?_reverse hk, List.getElem?_eq_getElem (by omega)]
 ·exact ⟨⟨(0, none, 0, []), Nat.zero_le _, Nat.le_refl _, Kd.C_nil _ _⟩, fun h => absurd h hk⟩
theorem rw_all {w : World} {b : Nat} (l : List (List Int)) (el : Nat → RwRow w b) (hel : ∀ k, k < l.length → l.reverse[k]? = some (rwRow (el k))) : ((backToR el l.length).map rwRow) = l.reverse := by
 apply List.ext_getElem?
 intro k
 by_cases hk : k < l.length
 ·rw [hel k hk]
  simp [backToR, hk]
 ·rw [List.getElem?_eq_none (by simp [backToR]; omega), List.getElem?_eq_none (by simp; omega)]
theorem run_append_ints {W : World} (base ty : Nat) (v : Value) (xs ys : List Int) (A : Option Addr) (m c : Nat) (ok : Nat → Prop) (hfresh : ∀ k, W.heap.size ≤ k → ok k) (HO : Kd.R (Kd.int .i64) 3 W base ok v xs) (HR : Kd.C (Kd.int .i64) W A m ys) (hbase : base ≤ W.heap.size) (hl : (xs.length + m) * 8 ≤ 140737488355328) :
  ∃ v1 w1, (Builtin.append_ #[22, 22] ty #[v, .slice A m c]).run Try.prog W = .ok v1 w1 ∧ Kd.R (Kd.int .i64) 3 w1 base ok v1 (xs ++ ys) ∧ Below base W w1 ∧ W.grownBy w1 v.ownBlock ∧ (v1.ownBlock = v.ownBlock ∨ ∃ b, v1.ownBlock = some b ∧ W.heap.size ≤ b) := by
 have h := Kd.R_append_row (P := Try.prog) (ops := #[]) (rest := []) (o := { dst := some 2, op := .call { callee := .builtin .append, args := #[.tmp 0, .tmp 1], argTypes := #[22, 22] }, type := ty, pos := "", after := #[], guard := none }) (a := { tmps := #[v, .slice A m c, undef], defers := [] })
  (Q := fun e a w1 => e = .normal ∧ ∃ v1, a.tmps[2]? = some v1 ∧ Kd.R (Kd.int .i64) 3 w1 base ok v1 (xs ++ ys) ∧ Below base W w1 ∧ W.grownBy w1 v.ownBlock ∧ (v1.ownBlock = v.ownBlock ∨ ∃ b, v1.ownBlock = some b ∧ W.heap.size ≤ b)) (w0 := W) (fun n => Value.int .i64 n) 0 base rfl (.tmp 0) (.tmp 1) 22 3 (.int .i64 0) 8 rfl Try.underlying22 info3 rfl (by decide) v xs ys A m c ok rfl rfl hfresh HO HR (Below.refl _ _) hbase hl
  (fun v1 w1 h1 h2 h3 h4 => ⟨rfl, v1, rfl, h1, h2, h3, h4⟩)
 cases hr : (Builtin.append_ #[22, 22] ty #[v, .slice A m c]).run Try.prog W with
 | ok v1 w1 =>
  simp [wpList, Region.wanted, Oper.wp, execOp, resolve, invoke, builtin, hr, Result.andThen, Oper.upon, Act.put, Act.eval, LetsOut] at h
  exact ⟨_, _, rfl, h⟩
 | halt x w1 =>
  cases x <;> simp [wpList, Region.wanted, Oper.wp, execOp, resolve, invoke, builtin, hr, Result.andThen, Oper.upon, Act.put, Act.eval, LetsOut] at h
theorem wpListIn_append_run {F : Fence} {n : Nat} {P : Program} {W : World} {ops : Array Oper} {rest : List Oper} {o : Oper} {a : Act} {Q : Exit → Act → World → Prop}
  (hg : o.guard = none) (s x : Operand) (t : TypeId) (hop : o.op = Op.call { callee := Callee.builtin Builtin.append, args := #[s, x], argTypes := #[t, t] }) {v u v1 : Value} {w1 : World} (hs : a.eval s = v) (hx : a.eval x = u)
  (hrun : (Builtin.append_ #[t, t] o.type #[v, u]).run P W = .ok v1 w1) (hK : wpListIn F n P ops Q rest (a.put o.dst v1) w1) : wpListIn F n P ops Q (o :: rest) a W := by
 refine wpListIn_plain hg fun K hK' => ?_
 unfold Oper.wpIn
 refine ⟨?_, ?_⟩
 ·simp [Oper.about, hop, resolve, Target.leads, Sem.run_pure]
 ·rw [Oper.semAt_plain F _ _ (by rw [hop]; intro c hc'; cases hc')]
  simp [execOp, hop, resolve, invoke, builtin, hs, hx, hrun, Result.andThen]
  exact hK' _ _ hK
theorem R_keptOn {α : Type} {d : Kd α} {e base : Nat} {ok : Nat → Prop} {w w' : World} {v : Value} {xs : List α} {row : Option Nat} (h : d.R e w base ok v xs) (hg : w.grownBy w' row) (hr : ∀ r, row = some r → ∃ o : Obj, w.heap[r]? = some o ∧ o.isCells = false) : d.R e w' base ok v xs :=
 Kd.R_mono (Kd.R_grown (Kd.R_bound h) hg (fun k hk e1 => by
  obtain ⟨o, ho, hc⟩ := hr k e1.symm
  obtain ⟨_, _, _, q, _, cells, hcell⟩ := hk
  rw [hcell] at ho; cases ho; cases hc)) (fun k hk => hk.1)
theorem blk_keptOnR {W W' : World} {row : Option Nat} {b t : Nat} {cs : Array Value} (h : W.heap[b]? = some (.cells cs t (0, 0))) (hg : W.grownBy W' row) (hr : ∀ r, row = some r → ∃ o : Obj, W.heap[r]? = some o ∧ o.isCells = false) : W'.heap[b]? = some (.cells cs t (0, 0)) :=
 (grownBy_keeps_cells hg hr h rfl).trans h
set_option maxHeartbeats 4000000 in
set_option maxRecDepth 100000 in
theorem readingWord_in (k : Nat) (A0_0 : Option Addr) (c0_0 : Nat) (l0_0 : List Int) (A0_1 : Option Addr) (c0_1 : Nat) (l0_1 : List (List Int)) (w : World) (hr0_0 : Kd.C (Kd.int .i64) w A0_0 l0_0.length l0_0) (hc0_0 : l0_0.length ≤ c0_0) (hr0_1 : Kd.C (Kd.slice 3 (Kd.int .i64)) w A0_1 l0_1.length l0_1) (hc0_1 : l0_1.length ≤ c0_1) (hw : impl_IsTableau.f k l0_0 l0_1 = some true) (hbd : l0_1.length * l0_1.flatten.length < 17592186044416) :
  CallsIn Fence.wide 3 Try.prog 16 #[.agg #[.slice A0_0 l0_0.length c0_0, .slice A0_1 l0_1.length c0_1]] w fun e w' => ∃ v0_ : Value, e = .returned v0_ ∧ Kd.R (Kd.int .i64) 3 w' w.heap.size (fun _ => True) v0_ (readAll l0_1) ∧ Below w.heap.size w w' := by
 obtain ⟨el, hel⟩ := Classical.axiomOfChoice (rwEl_ex hr0_1)
 have HEL := Aside0.mk hel
 have HR0 := Aside0.mk hr0_0
 have HC0 := Aside0.mk hc0_0
 have HR1 := Aside0.mk hr0_1
 have HC1 := Aside0.mk hc0_1
 have HW := Aside0.mk hw
 have HBD := Aside0.mk hbd
 clear hr0_0 hc0_0 hr0_1 hc0_1 hw hbd hel
 refine callsIn_of_wp_marks Try.func16 rfl trivial ?_ rfl
 simp only [Try.ntmps16, List.size_toArray, List.length_cons, List.length_nil, Nat.reduceAdd, Nat.reduceSub, Array.replicate_succ, Array.replicate_zero, List.push_toArray, List.append_toArray, List.nil_append, List.cons_append]
 gi_wp2_with (first
  | (gi_at_call 38; refine (callsIn_wide.2 (impl_IsTableau.calls k A0_0 c0_0 l0_0 A0_1 c0_1 l0_1 true _ (Kd.C_alloc HR0.out _) HC0.out (Kd.C_alloc HR1.out _) HC1.out HW.out)).mono ?_; rintro e w6 ⟨rfl, hd⟩; have D6 := Aside0.mk hd; have hb6 : w6.heap[w.heap.size]? = some (.cells #[.slice A0_0 l0_0.length c0_0, .slice A0_1 l0_1.length c0_1] 28 (0, 0)) := (hd.block _ (by rw [World.size_alloc]; omega)).trans (blk_new w _); have hc6 : ((w6.alloc (.cells #[] 3 (0, 0))).alloc (.cells #[.slice (some ⟨w6.heap.size, 0, none⟩) 0 0] 22 (0, 0))).cell? ⟨w.heap.size, 1, none⟩ = some (.slice A0_1 l0_1.length c0_1) := by { have hlt := blk_lt hb6; exact (blk_cell ((Below.heap_alloc _ _ _ (by rw [World.size_alloc]; omega)).trans ((Below.heap_alloc _ _ _ hlt).trans hb6)) 1).trans rfl }; clear hd hb6)
  | (gi_at_call 41; refine (backr_in Fence.wide 2 trivial rfl _ _ _ _).mono ?_; rintro e w7 ⟨rfl, rfl⟩)
  | (refine ⟨trivial, ?_⟩; gi_at_call 38; refine (callsIn_wide.2 (impl_IsTableau.calls k A0_0 c0_0 l0_0 A0_1 c0_1 l0_1 true _ (Kd.C_alloc HR0.out _) HC0.out (Kd.C_alloc HR1.out _) HC1.out HW.out)).mono ?_; rintro e w6 ⟨rfl, hd⟩; have D6 := Aside0.mk hd; have hb6 : w6.heap[w.heap.size]? = some (.cells #[.slice A0_0 l0_0.length c0_0, .slice A0_1 l0_1.length c0_1] 28 (0, 0)) := (hd.block _ (by rw [World.size_alloc]; omega)).trans (blk_new w _); have hc6 : ((w6.alloc (.cells #[] 3 (0, 0))).alloc (.cells #[.slice (some ⟨w6.heap.size, 0, none⟩) 0 0] 22 (0, 0))).cell? ⟨w.heap.size, 1, none⟩ = some (.slice A0_1 l0_1.length c0_1) := by { have hlt := blk_lt hb6; exact (blk_cell ((Below.heap_alloc _ _ _ (by rw [World.size_alloc]; omega)).trans ((Below.heap_alloc _ _ _ hlt).trans hb6)) 1).trans rfl }; clear hd hb6)
  | (refine ⟨trivial, ?_⟩; gi_at_call 41; refine (backr_in Fence.wide 2 trivial rfl _ _ _ _).mono ?_; rintro e w7 ⟨rfl, rfl⟩))
 obtain ⟨N, hN⟩ : ∃ N, N = w.heap.size := ⟨_, rfl⟩
 obtain ⟨M, hM⟩ : ∃ M, M = w6.heap.size := ⟨_, rfl⟩
 have hD6 := D6.out
 have hNM : N < M := by have := hD6.size; rw [World.size_alloc] at this; omega
 have b6 : Below N w w6 := by rw [hN]; exact ((Below.refl _ w).alloc (Nat.le_refl _) _).trans (hD6.mono (by rw [World.size_alloc]; omega))
 rw [← hN] at hc6 ⊢
 rw [← hM] at hc6 ⊢
 obtain ⟨WA, hWA⟩ : ∃ WA, WA = w6.alloc (.cells #[] 3 (0, 0)) := ⟨_, rfl⟩
 rw [← hWA]
 obtain ⟨WB, hWB⟩ : ∃ WB, WB = WA.alloc (.cells #[.slice (some ⟨M, 0, none⟩) 0 0] 22 (0, 0)) := ⟨_, rfl⟩
 rw [← hWB]
 obtain ⟨W0, hW0⟩ : ∃ W0, W0 = WB.alloc (.cells #[.slice A0_1 l0_1.length c0_1] 23 (0, 0)) := ⟨_, rfl⟩
 rw [← hW0]
 have sA : WA.heap.size = M + 1 := by rw [hWA, World.size_alloc, hM]
 have sB : WB.heap.size = M + 2 := by rw [hWB, World.size_alloc, sA]
 have s0 : W0.heap.size = M + 3 := by rw [hW0, World.size_alloc, sB]
 have hmA : WA.heap[M]? = some (.cells #[] 3 (0, 0)) := by rw [hWA, hM]; exact World.alloc_heap_new w6 _
 have h3B : WB.heap[M + 1]? = some (.cells #[.slice (some ⟨M, 0, none⟩) 0 0] 22 (0, 0)) := by rw [hWB, ← sA]; exact World.alloc_heap_new WA _
 have hs0 : W0.heap[M + 2]? = some (.cells #[.slice A0_1 l0_1.length c0_1] 23 (0, 0)) := by rw [hW0, ← sB]; exact World.alloc_heap_new WB _
 have h30 : W0.heap[M + 1]? = some (.cells #[.slice (some ⟨M, 0, none⟩) 0 0] 22 (0, 0)) := by rw [hW0]; exact (Below.heap_alloc _ _ _ (by omega)).trans h3B
 have hm0 : W0.heap[M]? = some (.cells #[] 3 (0, 0)) := by rw [hW0, hWB]; exact (Below.heap_alloc _ _ _ (by rw [← hWB]; omega)).trans ((Below.heap_alloc _ _ _ (by omega)).trans hmA)
 have hB0 : Below N w W0 := by rw [hW0, hWB, hWA]; exact ((b6.alloc (by omega) _).alloc (by rw [← hWA]; omega) _).alloc (by rw [← hWA, ← hWB]; omega) _
 have hR0 : Kd.R (Kd.int .i64) 3 W0 N (fun k => k ≠ M + 1 ∧ k ≠ M + 2) (.slice (some ⟨M, 0, none⟩) 0 0) [] :=
  Kd.R_of_own (enc := fun n : Int => Value.int .i64 n) ⟨rfl, .inr ⟨M, 0, #[], rfl, by omega, hm0, Nat.le_refl _, by decide, rfl, rfl⟩⟩ (fun k hk => by
   have e : M = k := by simpa [Value.ownBlock] using hk
   omega)
 refine wpIn_rangeFunc_ownF rfl (by decide) (gf := 77) (lb := #[.pointer (some ⟨M + 2, 0, none⟩)]) rfl trivial (enters_of Try.func77 (by kernel_rfl) rfl)
  (backr_stops (fun x : RwRow w l0_1.flatten.length => rwEnc x) el Fence.wide 2 trivial rfl (by decide) (M + 2) N A0_1 l0_1.length c0_1 w W0 hN HR1.out.2.1 (fun k hk => (HEL.out k hk).1) hB0 (by omega) hs0)
  backKeeps_tR (backKeeps_bR (by omega) (by omega)) (Below.refl _ _) (fun _ => rfl)
  (fun pre W => (∃ v, Kd.R (Kd.int .i64) 3 W N (fun k => k ≠ M + 1 ∧ k ≠ M + 2) v (pre.map rwRow).flatten ∧ W.heap[M + 1]? = some (.cells #[v] 22 (0, 0)) ∧ M + 3 ≤ W.heap.size) ∧ Below N w W)
  (fun c pre W => False)
  (OwnFrom.and (Own.from (fun s A B row hs hg hr => by
   obtain ⟨v, h1, h2, h3⟩ := hs
   exact ⟨v, R_keptOn h1 hg hr, blk_keptOnR h2 hg hr, Nat.le_trans h3 hg.size⟩) _) (ownFrom_below (by omega) (by omega)))
  (fun c => Own.from (fun s A B row hs hg hr => hs) _)
  ⟨⟨_, hR0, h30, by omega⟩, hB0⟩
  (fun x => { tmps := #[.agg #[.slice A0_0 l0_0.length c0_0, .slice A0_1 l0_1.length c0_1], .pointer (some ⟨N, 0, none⟩), .slice none 0 0, .pointer (some ⟨M + 1, 0, none⟩), undef, .slice x.1.2.1 x.1.2.2.2.length x.1.2.2.1, .agg #[.slice A0_0 l0_0.length c0_0, .slice A0_1 l0_1.length c0_1], .bool true, .bool false, .slice (some ⟨M, 0, none⟩) 0 0, .pointer (some ⟨N, 1, none⟩), .slice A0_1 l0_1.length c0_1, .func (.func 77) #[] #[.pointer (some ⟨M + 1 + 1, 0, none⟩)], .int .i64 (x.1.1 : Int), .slice x.1.2.1 x.1.2.2.2.length x.1.2.2.1, undef, undef, undef, undef], defers := [] }) ?assign ?body ?done ?stop
 case assign =>
  intro l x W K hK
  clear hN hM
  simp only [rwEnc]
  gi_wp2
  exact hK
 case body =>
  rintro l pre ⟨⟨i, Ar, cr, row⟩, hrb, hrc, hrC⟩ W ⟨⟨v, hR, hbx, hsz⟩, hB⟩ hpre
  simp only at hrb hrc hrC
  have hlen : (pre.map rwRow).flatten.length + row.length ≤ l0_1.length * l0_1.flatten.length := by
   have h1 := rw_all_len pre
   have h2 := Nat.mul_le_mul_right l0_1.flatten.length (show pre.length + 1 ≤ l0_1.length from hpre)
   rw [Nat.succ_mul] at h2
   omega
  generalize hxs : (pre.map rwRow).flatten = xs at hR hlen
  obtain ⟨Av, cv, rfl⟩ := Kd.R_slice hR
  have HXS := Aside0.mk hxs
  clear hxs
  have hCW : Kd.C (Kd.int .i64) W Ar row.length row := Kd.C_below hrC (by rw [← hN]; exact hB)
  have hbd := HBD.out
  obtain ⟨v1, w1, hrun, h1, h2, h3, h4⟩ := run_append_ints N 22 _ _ row Ar row.length cr _ (fun k hk => ⟨by omega, by omega⟩) hR hCW (by omega) (by omega)
  obtain ⟨A1, c1, rfl⟩ := Kd.R_slice h1
  have hne : some (M + 1) ≠ (Value.slice Av xs.length cv).ownBlock := fun e => (hR.1 _ e.symm).1 rfl
  have hne2 : some (M + 2) ≠ (Value.slice Av xs.length cv).ownBlock := fun e => (hR.1 _ e.symm).2 rfl
  have hb1 : w1.heap[M + 1]? = some (.cells #[.slice Av xs.length cv] 22 (0, 0)) := (h3.block _ (blk_lt hbx) hne).trans hbx
  have hc3 : W.cell? ⟨M + 1, 0, none⟩ = some (.slice Av xs.length cv) := (blk_cell hbx 0).trans rfl
  have hc1 : w1.cell? ⟨M + 1, 0, none⟩ = some (.slice Av xs.length cv) := (blk_cell hb1 0).trans rfl
  have hf1 : w1.frozen? ⟨M + 1, 0, none⟩ = false := blk_frozen hb1 0
  have hKO : KeepsOthers W w1 := KeepsOthers.of_grownBy h3 (fun j o ej hj => by
   obtain ⟨cells, hcell⟩ := Kd.R_typed hR j ej
   rw [hcell] at hj
   cases hj
   rfl)
  have HK := Aside0.mk hKO
  have HX := Aside0.mk (And.intro h1 (And.intro h2 (And.intro h3 (And.intro hb1 (And.intro hR (And.intro hB (And.intro hsz hne2)))))))
  clear hKO h1 h2 h3 h4 hb1 hR hB hsz hne hne2 hlen hbd hCW hbx
  have HNM := Aside0.mk hNM
  clear hN hM hD6 hNM b6 hc6 hWA hWB hW0 sA sB s0 hmA h3B hs0 h30 hm0 hB0 hR0
  gi_wp2_with (gi_at_builtin; refine wpListIn_append_run (by rfl) (.tmp 15) (.tmp 16) _ (by rfl) (by rfl) (by rfl) hrun ?_)
  obtain ⟨h1, h2, h3, hb1, hR, hB, hsz, hne2⟩ := HX.out
  rw [← List.length_append]
  have hNM := HNM.out
  have e : ((pre ++ [(⟨(i, Ar, cr, row), hrb, hrc, hrC⟩ : RwRow w l0_1.flatten.length)]).map rwRow).flatten = xs ++ row := by rw [List.map_append, List.flatten_append, HXS.out]; simp [rwRow]
  refine ⟨HK.out.trans (KeepsOthers.setCell _ _ _), ⟨h2.setCell (p := ⟨M + 1, 0, none⟩) (show N ≤ M + 1 by omega) _, fun hlt => (Below.heap_setCell _ _ _ _ (show M + 2 ≠ M + 1 by omega)).trans (h3.block _ hlt hne2), Nat.le_trans h3.size (by simp [World.setCell])⟩, ⟨_, ?_, blk_put hb1 0 _ rfl, Nat.le_trans hsz (Nat.le_trans h3.size (by simp [World.setCell]))⟩, (hB.trans h2).setCell (p := ⟨M + 1, 0, none⟩) (show N ≤ M + 1 by omega) _⟩
  rw [e]
  exact Kd.R_far h1 (fun k hk => hk.1) _
 case done =>
  rintro D ys W hD hys ⟨⟨v, hR, hbx, hsz⟩, hB⟩ hK
  have hall : (ys.map rwRow).flatten = readAll l0_1 := by rw [hys, rw_all l0_1 el (fun k hk => (HEL.out k hk).2)]; rfl
  rw [hall] at hR
  obtain ⟨Av, cv, rfl⟩ := Kd.R_slice hR
  have hc3 : W.cell? ⟨M + 1, 0, none⟩ = some (.slice Av (readAll l0_1).length cv) := (blk_cell hbx 0).trans rfl
  have HN := Aside0.mk hN
  have HX := Aside0.mk (And.intro hR (And.intro hB (And.intro hD (And.intro s0 hNM))))
  clear hN hM hD6 hNM b6 hc6 hWA hWB hW0 sA sB s0 hmA h3B hs0 h30 hm0 hB0 hR0 hR hB hD hall hys hbx hsz
  gi_wp2
  obtain ⟨hR, hB, hD, s0, hNM⟩ := HX.out
  refine ⟨by simp, .inl ⟨_, _, rfl, run_takeDeferred hK, ?_⟩⟩
  refine ⟨.slice Av (readAll l0_1).length cv, ?_, _, rfl, ?_, ?_⟩
  ·simp [results, Try.f16, go_sem]
  ·rw [← HN.out]
   exact Kd.R_mono (R_keptOn hR (grownBy_putObj' _ D (.deferred none)) (fun r e => by cases e; exact ⟨_, hK, rfl⟩)) (fun _ _ => trivial)
  ·rw [← HN.out]
   exact hB.grown (grownBy_putObj' _ D (.deferred none)) (Nat.le_trans (show N ≤ M + 3 by omega) (by have := (Array.getElem?_eq_some_iff.1 hK).1; omega)) (fun k e => by cases e; omega)
 case stop =>
  rintro D c pre W hD hpre hF hK
  exact hF.elim
set_option maxHeartbeats 4000000 in
set_option maxRecDepth 100000 in
theorem readingWord_not (k : Nat) (A0_0 : Option Addr) (c0_0 : Nat) (l0_0 : List Int) (A0_1 : Option Addr) (c0_1 : Nat) (l0_1 : List (List Int)) (w : World) (hr0_0 : Kd.C (Kd.int .i64) w A0_0 l0_0.length l0_0) (hc0_0 : l0_0.length ≤ c0_0) (hr0_1 : Kd.C (Kd.slice 3 (Kd.int .i64)) w A0_1 l0_1.length l0_1) (hc0_1 : l0_1.length ≤ c0_1) (hw : impl_IsTableau.f k l0_0 l0_1 = some false) :
  CallsIn Fence.wide 3 Try.prog 16 #[.agg #[.slice A0_0 l0_0.length c0_0, .slice A0_1 l0_1.length c0_1]] w fun e w' => ∃ v0_ : Value, e = .returned v0_ ∧ Kd.R (Kd.int .i64) 3 w' w.heap.size (fun _ => True) v0_ [] ∧ Below w.heap.size w w' := by
 have HR0 := Aside0.mk hr0_0
 have HC0 := Aside0.mk hc0_0
 have HR1 := Aside0.mk hr0_1
 have HC1 := Aside0.mk hc0_1
 have HW := Aside0.mk hw
 clear hr0_0 hc0_0 hr0_1 hc0_1 hw
 refine callsIn_of_wp_marks Try.func16 rfl trivial ?_ rfl
 simp only [Try.ntmps16, List.size_toArray, List.length_cons, List.length_nil, Nat.reduceAdd, Nat.reduceSub, Array.replicate_succ, Array.replicate_zero, List.push_toArray, List.append_toArray, List.nil_append, List.cons_append]
 gi_wp2_with (first
  | (gi_at_call 38; refine (callsIn_wide.2 (impl_IsTableau.calls k A0_0 c0_0 l0_0 A0_1 c0_1 l0_1 false _ (Kd.C_alloc HR0.out _) HC0.out (Kd.C_alloc HR1.out _) HC1.out HW.out)).mono ?_; rintro e w6 ⟨rfl, hd⟩; have D6 := Aside0.mk hd; clear hd)
  | (refine ⟨trivial, ?_⟩; gi_at_call 38; refine (callsIn_wide.2 (impl_IsTableau.calls k A0_0 c0_0 l0_0 A0_1 c0_1 l0_1 false _ (Kd.C_alloc HR0.out _) HC0.out (Kd.C_alloc HR1.out _) HC1.out HW.out)).mono ?_; rintro e w6 ⟨rfl, hd⟩; have D6 := Aside0.mk hd; clear hd))
 refine ⟨.slice none 0 0, ?_, _, rfl, Kd.R_nil _ _ _ _ _, ((Below.refl _ w).alloc (Nat.le_refl _) _).trans (D6.out.mono (by rw [World.size_alloc]; omega))⟩
 simp [results, Try.f16, go_sem]
theorem impl_ReadingWord.calls (k : Nat) (A0_0 : Option Addr) (c0_0 : Nat) (l0_0 : List Int) (A0_1 : Option Addr) (c0_1 : Nat) (l0_1 : List (List Int)) (r : List Int) (w : World) (hr0_0 : Kd.C (Kd.int .i64) w A0_0 l0_0.length l0_0) (hc0_0 : l0_0.length ≤ c0_0) (hr0_1 : Kd.C (Kd.slice 3 (Kd.int .i64)) w A0_1 l0_1.length l0_1) (hc0_1 : l0_1.length ≤ c0_1) (h : impl_ReadingWord.f k l0_0 l0_1 = some r) : Calls Try.prog 16 #[.agg #[.slice A0_0 l0_0.length c0_0, .slice A0_1 l0_1.length c0_1]] w fun e w' => ∃ v0_ : Value, e = .returned (v0_) ∧ Kd.R (Kd.int .i64) 3 w' w.heap.size (fun _ => True) v0_ r ∧ Below w.heap.size w w' := by
 unfold impl_ReadingWord.f at h
 cases hw : impl_IsTableau.f k l0_0 l0_1 with
 | none => rw [hw] at h; cases h
 | some b =>
  rw [hw] at h
  simp only [Option.bind_some] at h
  cases b with
  | false =>
   cases h
   exact callsIn_wide.1 (readingWord_not k A0_0 c0_0 l0_0 A0_1 c0_1 l0_1 w hr0_0 hc0_0 hr0_1 hc0_1 hw)
  | true =>
   by_cases hbd : l0_1.length * l0_1.flatten.length < 17592186044416
   ·rw [if_pos rfl, if_pos hbd] at h
    cases h
    exact callsIn_wide.1 (readingWord_in k A0_0 c0_0 l0_0 A0_1 c0_1 l0_1 w hr0_0 hc0_0 hr0_1 hc0_1 hw hbd)
   ·rw [if_pos rfl, if_neg hbd] at h
    cases h
end

def impl_isPlain.f (k : Nat) (l0_0 : List Int) (l0_1 : List (List Int)) : Option (Bool) := if (l0_0.length : Int) = 0 then ((impl_IsTableau.f k l0_0 l0_1).bind fun t318 => (some t318)) else (some false)
theorem impl_isPlain.mono : ∀ a0 a1 k, LeO (impl_isPlain.f k a0 a1) (impl_isPlain.f (k + 1) a0 a1) := by
 intro a0 a1 k
 unfold impl_isPlain.f
 repeat' first
   | (with_reducible exact impl_IsTableau.mono _ _ _)
   | (with_reducible exact LeO.refl _)
   | (with_reducible exact LeO.none _)
   | (with_reducible refine LeO.ite ?_ ?_)
   | (with_reducible refine LeO.bind ?_ (fun _ => ?_))
   | exact impl_IsTableau.mono _ _ _
   | exact LeO.none _
   | refine LeO.ite ?_ ?_
   | refine LeO.bind ?_ (fun _ => ?_)
set_option maxHeartbeats 8000000 in
set_option maxRecDepth 100000 in
theorem impl_isPlain.calls (k : Nat) (A0_0 : Option Addr) (c0_0 : Nat) (l0_0 : List Int) (A0_1 : Option Addr) (c0_1 : Nat) (l0_1 : List (List Int)) (r : Bool) (w : World) (hr0_0 : Kd.C (Kd.int .i64) w A0_0 l0_0.length l0_0) (hc0_0 : l0_0.length ≤ c0_0) (hr0_1 : Kd.C (Kd.slice 3 (Kd.int .i64)) w A0_1 l0_1.length l0_1) (hc0_1 : l0_1.length ≤ c0_1) (h : impl_isPlain.f k l0_0 l0_1 = some r) :
  Calls Try.prog 63 #[.agg #[.slice A0_0 l0_0.length c0_0, .slice A0_1 l0_1.length c0_1]] w fun e w' => e = .returned (.bool r) ∧ Below w.heap.size w w' := by
 have hu28 := Try.underlying28
 have HR0_0 := Aside0.mk hr0_0
 have HC0_0 := Aside0.mk hc0_0
 clear hr0_0 hc0_0
 have HR0_1 := Aside0.mk hr0_1
 have HC0_1 := Aside0.mk hc0_1
 clear hr0_1 hc0_1
 have HB := Aside0.mk (Below.refl w.heap.size w)
 have H : (if (l0_0.length : Int) = 0 then ((impl_IsTableau.f k l0_0 l0_1).bind fun t318 => (some t318)) else (some false)) = some r := h
 clear h
 by_cases c2 : (l0_0.length : Int) = 0
 ·rw [if_pos c2] at H
  have c2b0 : ((l0_0.length : Int) == 0) = true := beq_iff_eq.mpr c2
  have c2b1 : ((l0_0.length : Int) != 0) = false := bne_eq_false_iff_eq.mpr c2
  clear c2
  replace H := Option.bind_eq_some_iff.mp H
  obtain ⟨t318, A30, H⟩ := H
  replace H : (some t318) = some r := H
  have A3 := Aside0.mk A30
  clear A30
  obtain rfl := Option.some.inj H
  go_enter Try.func63, Try.ntmps63
  go_wp2_with (first | ((with_reducible refine gate_dst (N := 1) rfl ?_); refine zX (N := 1) (cs := #[.slice A0_0 l0_0.length c0_0, .slice A0_1 l0_1.length c0_1]) (t := 28) ?_; intro gb317 hg w4 hbox hb; have n0_ := Aside0.mk (below_step (by repeat (first | (with_reducible first | exact HB.out | apply below_alloc | apply pw_below_drewN | apply below_drew1) | exact HB.out)) hb); have n1_ := Aside0.mk (hbox); have n2_ := Aside0.mk ((by rw [hg]; exact (below_size (by repeat (first | (with_reducible first | exact HB.out | apply below_alloc | apply pw_below_drewN | apply below_drew1) | exact HB.out))) : w.heap.size ≤ gb317)); have n3_ := Aside0.mk ((by rw [hg]; exact (below_size (by repeat (first | (with_reducible first | exact HB.out | apply below_alloc | apply pw_below_drewN | apply below_drew1) | exact HB.out))) : w.heap.size ≤ gb317)); clear HB; have HB := n0_; have BK317 := n1_; have GW317 := n2_; have GE317 := n3_; clear n0_ n1_ n2_ n3_; clear hb hbox hg; have hcz5_0 : w4.cell? ⟨gb317, 0, none⟩ = some (.slice A0_0 l0_0.length c0_0) := (blk_cell BK317.out 0).trans rfl; have hcz5_1 : w4.cell? ⟨gb317, 1, none⟩ = some (.slice A0_1 l0_1.length c0_1) := (blk_cell BK317.out 1).trans rfl; have hfz5_0 := blk_frozen BK317.out 0; have hfz5_1 := blk_frozen BK317.out 1) | (go_at_call 38; (with_reducible refine (impl_IsTableau.calls k _ _ l0_0 _ _ l0_1 t318 _ ?side1 ?side2 ?side3 ?side4 A3.out).mono ?_); (case side1 => repeat (first | exact (Kd.C_below HR0_0.out HB.out) | (with_reducible refine Kd.C_alloc ?_ _) | (with_reducible refine Kd.C_drewN ?_ _) | (with_reducible refine Kd.C_drew ?_))); (case side2 => exact HC0_0.out); (case side3 => repeat (first | exact (Kd.C_below HR0_1.out HB.out) | (with_reducible refine Kd.C_alloc ?_ _) | (with_reducible refine Kd.C_drewN ?_ _) | (with_reducible refine Kd.C_drew ?_))); (case side4 => exact HC0_1.out); rintro e w6 ⟨rfl, hb⟩; have n0_ := Aside0.mk (blk_below (g := gb317) (o := .cells #[.slice A0_0 l0_0.length c0_0, .slice A0_1 l0_1.length c0_1] 28 (0, 0)) (by (with_reducible repeat (first | refine blk_drewN ?_ _ | refine blk_drew ?_ | refine blk_alloc ?_ _)); exact BK317.out) hb); have n1_ := Aside0.mk (below_step (by repeat (first | (with_reducible first | exact HB.out | apply below_alloc | apply pw_below_drewN | apply below_drew1 | refine below_set ?_ GE317.out) | exact HB.out)) hb); clear BK317; clear HB; have BK317 := n0_; have HB := n1_; clear n0_ n1_; (try clear hb); (try clear hb2); (try clear hk); (try clear hi)))
  go_ret
  exact ⟨by first | rfl | (simp [errW_none, errW_some] <;> rfl) | (simp [*, errW_none, errW_some] <;> rfl), by repeat (first | (with_reducible first | exact HB.out | apply below_alloc | apply pw_below_drewN | apply below_drew1 | refine below_set ?_ GE317.out) | exact HB.out)⟩
 ·rw [if_neg c2] at H
  have c2b0 : ((l0_0.length : Int) == 0) = false := beq_eq_false_iff_ne.mpr c2
  have c2b1 : ((l0_0.length : Int) != 0) = true := bne_iff_ne.mpr c2
  have c2b2 : ¬ (l0_0 = []) := fun h_ => c2 (by rw [h_]; rfl)
  obtain rfl := Option.some.inj H
  go_enter Try.func63, Try.ntmps63
  go_wp2_with (first | ((with_reducible refine gate_dst (N := 1) rfl ?_); refine zX (N := 1) (cs := #[.slice A0_0 l0_0.length c0_0, .slice A0_1 l0_1.length c0_1]) (t := 28) ?_; intro gb317 hg w7 hbox hb; have n0_ := Aside0.mk (below_step (by repeat (first | (with_reducible first | exact HB.out | apply below_alloc | apply pw_below_drewN | apply below_drew1) | exact HB.out)) hb); have n1_ := Aside0.mk (hbox); have n2_ := Aside0.mk ((by rw [hg]; exact (below_size (by repeat (first | (with_reducible first | exact HB.out | apply below_alloc | apply pw_below_drewN | apply below_drew1) | exact HB.out))) : w.heap.size ≤ gb317)); have n3_ := Aside0.mk ((by rw [hg]; exact (below_size (by repeat (first | (with_reducible first | exact HB.out | apply below_alloc | apply pw_below_drewN | apply below_drew1) | exact HB.out))) : w.heap.size ≤ gb317)); clear HB; have HB := n0_; have BK317 := n1_; have GW317 := n2_; have GE317 := n3_; clear n0_ n1_ n2_ n3_; clear hb hbox hg; have hcz8_0 : w7.cell? ⟨gb317, 0, none⟩ = some (.slice A0_0 l0_0.length c0_0) := (blk_cell BK317.out 0).trans rfl; have hcz8_1 : w7.cell? ⟨gb317, 1, none⟩ = some (.slice A0_1 l0_1.length c0_1) := (blk_cell BK317.out 1).trans rfl; have hfz8_0 := blk_frozen BK317.out 0; have hfz8_1 := blk_frozen BK317.out 1))
  go_ret
  exact ⟨by first | rfl | (simp [errW_none, errW_some] <;> rfl) | (simp [*, errW_none, errW_some] <;> rfl), by repeat (first | (with_reducible first | exact HB.out | apply below_alloc | apply pw_below_drewN | apply below_drew1 | refine below_set ?_ GE317.out) | exact HB.out)⟩

mutual
def impl_columnsOf.l0 : Nat → List (List Int) → List (List Int) → Int → Int → Option ((List (List Int)))
 | 0, _, _, _, _ => none
 | k + 1, x3, x10, x11, x12 => if x12 < x11 then (if 0 ≤ x12 then (if x12 < (x10.length : Int) then (impl_columnsOf.l1 k x3 x10 x11 x12 (rd_L1 x10 x12) ((rd_L1 x10 x12).length : Int) 0) else (none)) else (none)) else (some x3)
def impl_columnsOf.l1 : Nat → List (List Int) → List (List Int) → Int → Int → List Int → Int → Int → Option ((List (List Int)))
 | 0, _, _, _, _, _, _, _ => none
 | k + 1, x3, x10, x11, x12, x16, x17, x18 => if x18 < x17 then (if 0 ≤ x18 then (if x18 < (x16.length : Int) then (if x18 = (x3.length : Int) then (if x3.length < 5864062014805 then ((some (x3 ++ [[]] : List (List Int))).bind fun y325 => (if x18 < (y325.length : Int) then (if (rd_L1 y325 x18).length < 17592186044416 then (impl_columnsOf.l1 k (y325.set (x18 : Int).toNat ((rd_L1 y325 x18) ++ [rd x16 x18])) x10 x11 x12 x16 x17 (wrap64 (x18 + 1))) else (none)) else (none))) else (none)) else (if x18 < (x3.length : Int) then (if (rd_L1 x3 x18).length < 17592186044416 then (impl_columnsOf.l1 k (x3.set (x18 : Int).toNat ((rd_L1 x3 x18) ++ [rd x16 x18])) x10 x11 x12 x16 x17 (wrap64 (x18 + 1))) else (none)) else (none))) else (none)) else (none)) else (impl_columnsOf.l0 k x3 x10 x11 (wrap64 (x12 + 1)))
end
def impl_columnsOf.f (k : Nat) (l0_0 : List Int) (l0_1 : List (List Int)) : Option ((List (List Int))) := impl_columnsOf.l0 k (([] : List (List Int))) l0_1 (l0_1.length : Int) 0
theorem impl_columnsOf.mono_l : ∀ k, (∀ y0 y1 y2 y3, LeO (impl_columnsOf.l0 k y0 y1 y2 y3) (impl_columnsOf.l0 (k + 1) y0 y1 y2 y3)) ∧ (∀ y0 y1 y2 y3 y4 y5 y6, LeO (impl_columnsOf.l1 k y0 y1 y2 y3 y4 y5 y6) (impl_columnsOf.l1 (k + 1) y0 y1 y2 y3 y4 y5 y6))
 | 0 => ⟨fun _ _ _ _ r h => by simp [impl_columnsOf.l0] at h, fun _ _ _ _ _ _ _ r h => by simp [impl_columnsOf.l1] at h⟩
 | k + 1 => by
  obtain ⟨ih0, ih1⟩ := impl_columnsOf.mono_l k
  refine ⟨?_, ?_⟩
  ·intro y0 y1 y2 y3
   unfold impl_columnsOf.l0
   repeat' first
   | (with_reducible exact ih0 _ _ _ _)
   | (with_reducible exact ih1 _ _ _ _ _ _ _)
   | (with_reducible exact LeO.refl _)
   | (with_reducible exact LeO.none _)
   | (with_reducible refine LeO.ite ?_ ?_)
   | (with_reducible refine LeO.bind ?_ (fun _ => ?_))
   | exact ih0 _ _ _ _
   | exact ih1 _ _ _ _ _ _ _
   | exact LeO.none _
   | refine LeO.ite ?_ ?_
   | refine LeO.bind ?_ (fun _ => ?_)
  ·intro y0 y1 y2 y3 y4 y5 y6
   unfold impl_columnsOf.l1
   repeat' first
   | (with_reducible exact ih0 _ _ _ _)
   | (with_reducible exact ih1 _ _ _ _ _ _ _)
   | (with_reducible exact LeO.refl _)
   | (with_reducible exact LeO.none _)
   | (with_reducible refine LeO.ite ?_ ?_)
   | (with_reducible refine LeO.bind ?_ (fun _ => ?_))
   | exact ih0 _ _ _ _
   | exact ih1 _ _ _ _ _ _ _
   | exact LeO.none _
   | refine LeO.ite ?_ ?_
   | refine LeO.bind ?_ (fun _ => ?_)
theorem impl_columnsOf.mono : ∀ a0 a1 k, LeO (impl_columnsOf.f k a0 a1) (impl_columnsOf.f (k + 1) a0 a1) := by
 intro a0 a1 k
 obtain ⟨ih0, ih1⟩ := impl_columnsOf.mono_l k
 unfold impl_columnsOf.f
 repeat' first
   | (with_reducible exact ih0 _ _ _ _)
   | (with_reducible exact ih1 _ _ _ _ _ _ _)
   | (with_reducible exact LeO.refl _)
   | (with_reducible exact LeO.none _)
   | (with_reducible refine LeO.ite ?_ ?_)
   | (with_reducible refine LeO.bind ?_ (fun _ => ?_))
   | exact ih0 _ _ _ _
   | exact ih1 _ _ _ _ _ _ _
   | exact LeO.none _
   | refine LeO.ite ?_ ?_
   | refine LeO.bind ?_ (fun _ => ?_)
set_option maxHeartbeats 8000000 in
set_option maxRecDepth 100000 in
theorem impl_columnsOf.calls (k : Nat) (A0_0 : Option Addr) (c0_0 : Nat) (l0_0 : List Int) (A0_1 : Option Addr) (c0_1 : Nat) (l0_1 : List (List Int)) (r : List (List Int)) (w : World) (hr0_0 : Kd.C (Kd.int .i64) w A0_0 l0_0.length l0_0) (hc0_0 : l0_0.length ≤ c0_0) (hr0_1 : Kd.C (Kd.slice 3 (Kd.int .i64)) w A0_1 l0_1.length l0_1) (hc0_1 : l0_1.length ≤ c0_1) (h : impl_columnsOf.f k l0_0 l0_1 = some r) :
  Calls Try.prog 67 #[.agg #[.slice A0_0 l0_0.length c0_0, .slice A0_1 l0_1.length c0_1]] w fun e w' => ∃ v0_ : Value, e = .returned (v0_) ∧ Kd.S (Kd.slice 3 (Kd.int .i64)) 22 w' w.heap.size (fun _ => True) v0_ r ∧ Below w.heap.size w w' := by
 have hu28 := Try.underlying28
 have HR0_0 := Aside0.mk hr0_0
 have HC0_0 := Aside0.mk hc0_0
 clear hr0_0 hc0_0
 have HR0_1 := Aside0.mk hr0_1
 have HC0_1 := Aside0.mk hc0_1
 clear hr0_1 hc0_1
 have HB := Aside0.mk (Below.refl w.heap.size w)
 have H : (impl_columnsOf.l0 k (([] : List (List Int))) l0_1 (l0_1.length : Int) 0) = some r := h
 clear h
 obtain ⟨y320, hy320⟩ : ∃ y_ : List (List Int), y_ = (([] : List (List Int))) := ⟨_, rfl⟩
 replace H : (impl_columnsOf.l0 k y320 l0_1 (l0_1.length : Int) 0) = some r := by first | (rw [hy320]; with_reducible exact H) | (have H2_ := (Option.bind_some _ _).symm.trans H; rw [hy320]; with_reducible exact H2_) | (have H2_ := (Option.bind_some _ _).symm.trans H; with_reducible exact H2_) | with_reducible exact H | (rw [hy320]; exact H) | exact H
 have Ny320 := Aside0.mk hy320
 clear hy320
 have H' := Aside0.mk H
 clear H
 go_enter Try.func67, Try.ntmps67
 go_wp2_with (first | ((with_reducible refine gate_dst (N := 1) rfl ?_); refine zX (N := 1) (cs := #[.slice A0_0 l0_0.length c0_0, .slice A0_1 l0_1.length c0_1]) (t := 28) ?_; intro gb319 hg w2 hbox hb; have n0_ := Aside0.mk (below_step (by repeat (first | (with_reducible first | exact HB.out | apply below_alloc | apply pw_below_drewN | apply below_drew1) | exact HB.out)) hb); have n1_ := Aside0.mk (hbox); have n2_ := Aside0.mk ((by rw [hg]; exact (below_size (by repeat (first | (with_reducible first | exact HB.out | apply below_alloc | apply pw_below_drewN | apply below_drew1) | exact HB.out))) : w.heap.size ≤ gb319)); have n3_ := Aside0.mk ((by rw [hg]; exact (below_size (by repeat (first | (with_reducible first | exact HB.out | apply below_alloc | apply pw_below_drewN | apply below_drew1) | exact HB.out))) : w.heap.size ≤ gb319)); clear HB; have HB := n0_; have BK319 := n1_; have GW319 := n2_; have GE319 := n3_; clear n0_ n1_ n2_ n3_; clear hb hbox hg) | ((with_reducible refine gate_dst (N := 8) rfl ?_); refine Kd.S_lit (Kd.slice 3 (Kd.int .i64)) _ 22 ?hg (N := 8) ?hd (xs := ([] : List (List Int))) (inner := []) (ok := fun _ => True) (okp := fun _ => True) ?hr ?hp (fun _ hk => hk) trivial (Below.refl _ _) (Nat.le_refl _) (by simp) ?_; (case hd => rfl); (case hg => rfl); (case hr => first | (go_simp; done) | (go_simp; rfl)); (case hp => exact (Reps.none _ _)); intro v321 w3 ho4 hb hg_ hnew_; clear hg_ hnew_; (first | rw [← Ny320.out] at ho4 | (simp only [Int.reduceToNat] at ho4; rw [← Ny320.out] at ho4)); have n0_ := Aside0.mk (Kd.S_lower ho4 (below_size (by repeat (first | (with_reducible first | exact HB.out | apply below_alloc | apply pw_below_drewN | apply below_drew1 | refine below_set ?_ GE319.out) | exact HB.out)))); have n1_ := Aside0.mk (blk_below (g := gb319) (o := .cells #[.slice A0_0 l0_0.length c0_0, .slice A0_1 l0_1.length c0_1] 28 (0, 0)) (by (with_reducible repeat (first | refine blk_drewN ?_ _ | refine blk_drew ?_ | refine blk_alloc ?_ _)); exact BK319.out) hb); have n2_ := Aside0.mk (below_step (by repeat (first | (with_reducible first | exact HB.out | apply below_alloc | apply pw_below_drewN | apply below_drew1 | refine below_set ?_ GE319.out) | exact HB.out)) hb); clear BK319; clear HB; have HO322 := n0_; have BK319 := n1_; have HB := n2_; clear n0_ n1_ n2_; clear hb ho4; have hcz5_0 : w3.cell? ⟨gb319, 0, none⟩ = some (.slice A0_0 l0_0.length c0_0) := (blk_cell BK319.out 0).trans rfl; have hcz5_1 : w3.cell? ⟨gb319, 1, none⟩ = some (.slice A0_1 l0_1.length c0_1) := (blk_cell BK319.out 1).trans rfl; have hfz5_0 := blk_frozen BK319.out 0; have hfz5_1 := blk_frozen BK319.out 1))
 go_loopg [3, 12] k (fun kq v3 v12 w' => ∃ (x3_1 : List (List Int)) (x12_1 : Int), v12 = .int .i64 x12_1 ∧ Aside0 (impl_columnsOf.l0 kq x3_1 l0_1 (l0_1.length : Int) x12_1 = some r) ∧ Aside0 (kq ≤ k) ∧ Aside0 (Kd.S (Kd.slice 3 (Kd.int .i64)) 22 w' w.heap.size (fun _ => True) v3 x3_1) ∧ Aside0 (w'.heap[gb319]? = some (.cells #[(.slice A0_0 l0_0.length c0_0), (.slice A0_1 l0_1.length c0_1)] 28 (0, 0))) ∧ Aside0 (Below w.heap.size w w'))
 case atStart => exact ⟨(y320), (0), (by first | rfl | (simp; done) | (simp [*]; done)), H', ⟨Nat.le_refl _⟩, ⟨by (with_reducible repeat (first | apply Kd.S_alloc | apply Kd.S_drewN | apply Kd.S_drew)); exact HO322.out⟩, ⟨by (with_reducible repeat (first | refine blk_drewN ?_ _ | refine blk_drew ?_ | refine blk_alloc ?_ _)); exact BK319.out⟩, ⟨by repeat (first | (with_reducible first | exact HB.out | apply below_alloc | apply pw_below_drewN | apply below_drew1 | refine below_set ?_ GE319.out) | exact HB.out)⟩⟩
 case round =>
  clear H'
  try clear p2
  try clear hcz5_0
  try clear hcz5_1
  try clear hfz5_0
  try clear hfz5_1
  obtain ⟨x3_1, x12_1, rfl, HA, HK1, HO_3, BK319, HB⟩ := hrel
  cases gk with
  | zero => exact absurd HA.out (by simp [impl_columnsOf.l0])
  | succ k1 =>
   have H := HA.out
   clear HA
   simp only [impl_columnsOf.l0] at H
   by_cases c6 : x12_1 < (l0_1.length : Int)
   ·rw [if_pos c6] at H
    have c6b0 : decide (x12_1 < (l0_1.length : Int)) = true := decide_eq_true c6
    clear c6
    by_cases c7 : 0 ≤ x12_1
    ·rw [if_pos c7] at H
     have c7b0 : decide (0 ≤ x12_1) = true := decide_eq_true c7
     clear c7
     by_cases c8 : x12_1 < (l0_1.length : Int)
     ·rw [if_pos c8] at H
      have c8b0 : decide (x12_1 < (l0_1.length : Int)) = true := decide_eq_true c8
      clear c8
      have H' := Aside0.mk H
      clear H
      have p323 : 0 ≤ (x12_1 : Int) := of_decide_eq_true (by first | (with_reducible assumption) | assumption)
      have q323 : x12_1 < (l0_1.length : Int) := of_decide_eq_true (by first | (with_reducible assumption) | assumption)
      obtain ⟨ad323, A323_0, c323_0, e323, hx323_0, hl323_0, hi323_0⟩ := at_L1 HR0_1.out x12_1 p323 q323
      cases e323
      replace hx323_0 := (HB.out.cell (World.block_lt_of_cell? w _ hx323_0)).trans hx323_0
      have HR323_0 := Aside0.mk hi323_0
      have HC323_0 := Aside0.mk hl323_0
      clear hi323_0 hl323_0
      replace p323 := eq_true p323
      replace q323 := eq_true q323
      go_wp2
      go_loopg [3, 18] k1 (fun kq v3 v18 w' => ∃ (x3_2 : List (List Int)) (x18_2 : Int), v18 = .int .i64 x18_2 ∧ Aside0 (impl_columnsOf.l1 kq x3_2 l0_1 (l0_1.length : Int) x12_1 (rd_L1 l0_1 x12_1) ((rd_L1 l0_1 x12_1).length : Int) x18_2 = some r) ∧ Aside0 (kq ≤ k1) ∧ Aside0 (Kd.S (Kd.slice 3 (Kd.int .i64)) 22 w' w.heap.size (fun _ => True) v3 x3_2) ∧ Aside0 (w'.heap[gb319]? = some (.cells #[(.slice A0_0 l0_0.length c0_0), (.slice (some ad323) l0_1.length c0_1)] 28 (0, 0))) ∧ Aside0 (Below w.heap.size w w'))
      case atStart => exact ⟨(x3_1), (0), (by first | rfl | (simp; done) | (simp [*]; done)), H', ⟨Nat.le_refl _⟩, ⟨by (with_reducible repeat (first | apply Kd.S_alloc | apply Kd.S_drewN | apply Kd.S_drew)); exact HO_3.out⟩, ⟨by (with_reducible repeat (first | refine blk_drewN ?_ _ | refine blk_drew ?_ | refine blk_alloc ?_ _)); exact BK319.out⟩, ⟨by repeat (first | (with_reducible first | exact HB.out | apply below_alloc | apply pw_below_drewN | apply below_drew1 | refine below_set ?_ GE319.out) | exact HB.out)⟩⟩
      case round =>
       clear H'
       try clear p2
       try clear c3
       try clear p3
       try clear q3
       try clear hx3
       try clear c6
       try clear c6b0
       try clear c7
       try clear c7b0
       try clear c8
       try clear c8b0
       try clear hcz5_0
       try clear hcz5_1
       try clear hfz5_0
       try clear hfz5_1
       try clear hx323_0
       try clear p2
       try clear p323
       try clear q323
       obtain ⟨x3_2, x18_2, rfl, HA, HK2, HO_3, BK319, HB⟩ := hrel
       cases gk with
       | zero => exact absurd HA.out (by simp [impl_columnsOf.l1])
       | succ k2 =>
        have H := HA.out
        clear HA
        simp only [impl_columnsOf.l1] at H
        by_cases c9 : x18_2 < ((rd_L1 l0_1 x12_1).length : Int)
        ·rw [if_pos c9] at H
         have c9b0 : decide (x18_2 < ((rd_L1 l0_1 x12_1).length : Int)) = true := decide_eq_true c9
         clear c9
         by_cases c10 : 0 ≤ x18_2
         ·rw [if_pos c10] at H
          have c10b0 : decide (0 ≤ x18_2) = true := decide_eq_true c10
          clear c10
          by_cases c11 : x18_2 < ((rd_L1 l0_1 x12_1).length : Int)
          ·rw [if_pos c11] at H
           have c11b0 : decide (x18_2 < ((rd_L1 l0_1 x12_1).length : Int)) = true := decide_eq_true c11
           clear c11
           by_cases c12 : x18_2 = (x3_2.length : Int)
           ·rw [if_pos c12] at H
            have c12b0 : (x18_2 == (x3_2.length : Int)) = true := beq_iff_eq.mpr c12
            have c12b1 : (x18_2 != (x3_2.length : Int)) = false := bne_eq_false_iff_eq.mpr c12
            clear c12
            by_cases c13 : x3_2.length < 5864062014805
            ·rw [if_pos c13] at H
             have LMc13 := Aside0.mk c13
             clear c13
             obtain ⟨y325, hy325⟩ : ∃ y_ : List (List Int), y_ = (x3_2 ++ [[]]) := ⟨_, rfl⟩
             replace H : (if x18_2 < (y325.length : Int) then (if (rd_L1 y325 x18_2).length < 17592186044416 then (impl_columnsOf.l1 k2 (y325.set (x18_2 : Int).toNat ((rd_L1 y325 x18_2) ++ [rd (rd_L1 l0_1 x12_1) x18_2])) l0_1 (l0_1.length : Int) x12_1 (rd_L1 l0_1 x12_1) ((rd_L1 l0_1 x12_1).length : Int) (wrap64 (x18_2 + 1))) else (none)) else (none)) = some r := by first | (rw [hy325]; with_reducible exact H) | (have H2_ := (Option.bind_some _ _).symm.trans H; rw [hy325]; with_reducible exact H2_) | (have H2_ := (Option.bind_some _ _).symm.trans H; with_reducible exact H2_) | with_reducible exact H | (rw [hy325]; exact H) | exact H
             have Ny325 := Aside0.mk hy325
             clear hy325
             by_cases c14 : x18_2 < (y325.length : Int)
             ·rw [if_pos c14] at H
              have c14b0 : decide (x18_2 < (y325.length : Int)) = true := decide_eq_true c14
              clear c14
              by_cases c15 : (rd_L1 y325 x18_2).length < 17592186044416
              ·rw [if_pos c15] at H
               have LMc15 := Aside0.mk c15
               clear c15
               obtain ⟨y329, hy329⟩ : ∃ y_ : List Int, y_ = ((rd_L1 y325 x18_2) ++ [rd (rd_L1 l0_1 x12_1) x18_2]) := ⟨_, rfl⟩
               replace H : (impl_columnsOf.l1 k2 (y325.set (x18_2 : Int).toNat y329) l0_1 (l0_1.length : Int) x12_1 (rd_L1 l0_1 x12_1) ((rd_L1 l0_1 x12_1).length : Int) (wrap64 (x18_2 + 1))) = some r := by first | (rw [hy329]; with_reducible exact H) | (have H2_ := (Option.bind_some _ _).symm.trans H; rw [hy329]; with_reducible exact H2_) | (have H2_ := (Option.bind_some _ _).symm.trans H; with_reducible exact H2_) | with_reducible exact H | (rw [hy329]; exact H) | exact H
               have Ny329 := Aside0.mk hy329
               clear hy329
               obtain ⟨y332, hy332⟩ : ∃ y_ : List (List Int), y_ = (y325.set (x18_2 : Int).toNat y329) := ⟨_, rfl⟩
               replace H : (impl_columnsOf.l1 k2 y332 l0_1 (l0_1.length : Int) x12_1 (rd_L1 l0_1 x12_1) ((rd_L1 l0_1 x12_1).length : Int) (wrap64 (x18_2 + 1))) = some r := by first | (rw [hy332]; with_reducible exact H) | (have H2_ := (Option.bind_some _ _).symm.trans H; rw [hy332]; with_reducible exact H2_) | (have H2_ := (Option.bind_some _ _).symm.trans H; with_reducible exact H2_) | with_reducible exact H | (rw [hy332]; exact H) | exact H
               have Ny332 := Aside0.mk hy332
               clear hy332
               have H' := Aside0.mk H
               clear H
               have p324 : 0 ≤ (x18_2 : Int) := of_decide_eq_true (by first | (with_reducible assumption) | assumption)
               have q324 : x18_2 < ((rd_L1 l0_1 x12_1).length : Int) := of_decide_eq_true (by first | (with_reducible assumption) | assumption)
               obtain ⟨ad324, e324, hx324_0⟩ := Kd.at_int HR323_0.out x18_2 p324 q324
               cases e324
               replace hx324_0 := (HB.out.cell (World.block_lt_of_cell? w _ hx324_0)).trans hx324_0
               replace p324 := eq_true p324
               replace q324 := eq_true q324
               obtain ⟨Ao17, co17, eo17⟩ := Kd.S_slice HO_3.out
               subst eo17
               go_wp2_with (first | ((with_reducible refine gate_builtin (b := .append) (xs := #[.tmp 27, .tmp 28]) rfl ?_); at_builtin; refine Kd.S_append (Kd.slice 3 (Kd.int .i64)) (w0 := w) w.heap.size rfl (.tmp 27) (.tmp 28) 23 22 (.slice none 0 0) 24 rfl Try.underlying23 info22 rfl (by decide) (by omega) (.slice Ao17 x3_2.length co17) x3_2 [] [.slice none 0 0] (fun _ => True) (fun _ => False) rfl rfl ?aP (fun _ hk => hk.elim) ?aF ?aO ?aB ?aS ?aL ?_; (case aP => first | exact rfl | exact ⟨_, rfl, Kd.R_nil _ _ _ _ _⟩); (case aB => exact (by repeat (first | (with_reducible first | exact HB.out | apply below_alloc | apply pw_below_drewN | apply below_drew1 | refine below_set ?_ GE319.out) | exact HB.out))); (case aF => exact (fun _ _ => trivial)); (case aO => exact (by (with_reducible repeat (first | apply Kd.S_alloc | apply Kd.S_drewN | apply Kd.S_drew)); exact Kd.S_mono HO_3.out (fun k_ hk => ⟨trivial, fun e_ => e_⟩))); (case aS => exact (below_size (by repeat (first | (with_reducible first | exact HB.out | apply below_alloc | apply pw_below_drewN | apply below_drew1 | refine below_set ?_ GE319.out) | exact HB.out)))); (case aL => have := LMc13.out; omega); intro v326 w18 ho hb hg hat; rw [← Ny325.out] at ho; have n0_ := Aside0.mk (blk_grown (g := gb319) (o := .cells #[.slice A0_0 l0_0.length c0_0, .slice (some ad323) l0_1.length c0_1] 28 (0, 0)) (by (with_reducible repeat (first | refine blk_drewN ?_ _ | refine blk_drew ?_ | refine blk_alloc ?_ _)); exact BK319.out) hg (Kd.S_ne HO_3.out BK319.out (by decide))); have n1_ := Aside0.mk (hb); have n2_ := Aside0.mk (ho); clear BK319; clear HB; clear HO_3; have BK319 := n0_; have HB := n1_; have HO327 := n2_; clear n0_ n1_ n2_; clear ho hb hg hat; obtain ⟨Ao19, co19, eo19⟩ := Kd.S_slice HO327.out; subst eo19; have p328 : 0 ≤ (x18_2 : Int) := of_decide_eq_true (by first | (with_reducible assumption) | assumption); have q328 : x18_2 < (y325.length : Int) := of_decide_eq_true (by first | (with_reducible assumption) | assumption); obtain ⟨ad328, A328_0, c328_0, e328, hx328_0, hl328_0, hi328_0⟩ := at_L1 (Kd.S_reads' HO327.out).2.2 x18_2 p328 q328; cases e328; obtain ⟨ce328, hce328, hMe328, hcc328⟩ := Kd.S_get HO327.out [] x18_2 p328 (by first | exact q328 | exact of_decide_eq_true (by first | (with_reducible assumption) | assumption) | (have e_ := (Kd.S_reads' HO327.out).1; omega)); obtain ⟨ve328_0, rfl, ge328_0⟩ := hMe328; have hv328_0 := hcc328 0 _ rfl; rw [Nat.add_zero, show ((Kd.slice 3 (Kd.int .i64))).sz = 1 from rfl, Nat.mul_one] at hv328_0; replace hv328_0 := Option.some.inj (hv328_0.symm.trans hx328_0); rw [hv328_0] at ge328_0; have HL328_0 := Aside0.mk (show Kd.R (Kd.int .i64) 3 _ _ _ _ (rd_L1 y325 x18_2) from ge328_0); clear hv328_0 ge328_0; have HX328_0 := Aside0.mk hx328_0; clear hcc328 hce328; have HR328_0 := Aside0.mk hi328_0; have HC328_0 := Aside0.mk hl328_0; clear hi328_0 hl328_0; replace p328 := eq_true p328; replace q328 := eq_true q328; obtain ⟨go20, co20, eo20, gb20, gl20, cl20, HG20⟩ := Kd.S_form HO327.out (by have h_ : (x18_2 : Int) < ((y325.length : Int) : Int) := of_decide_eq_true (by first | (with_reducible assumption) | assumption); have h2_ : 0 ≤ (x18_2 : Int) := (of_decide_eq_true (by first | (with_reducible assumption) | assumption)); omega); (first | cases eo20 | (injection eo20 with ea_ en_ ec_; (first | subst ea_ | (injection ea_ with ea_; subst ea_)); subst ec_; clear en_)); have GB20 := Aside0.mk gb20; have GG20 := Aside0.mk HG20; clear gb20 gl20 HG20; (first | simp only [add_plain] at hx328_0 | skip); obtain ⟨oki20, ce20, hcl20, hM20, hcc20, _, _, hH20⟩ := Kd.S_elem HO327.out [] (x18_2 : Int) (of_decide_eq_true (by first | (with_reducible assumption) | assumption)) (by have h_ : (x18_2 : Int) < ((y325.length : Int) : Int) := of_decide_eq_true (by first | (with_reducible assumption) | assumption); first | exact h_ | (have e_ := (Kd.S_reads' HO327.out).1; omega) | simpa using h_); obtain ⟨ve20_0, rfl, ge20_0⟩ := hM20; have hv20 := hcc20 0 _ rfl; have hX20 := HX328_0.out; (try simp only [add_plain] at hX20); (try simp only [Nat.add_zero] at hv20); (try rw [show ((Kd.slice 3 (Kd.int .i64))).sz = 1 from rfl, Nat.mul_one] at hv20); replace hv20 := Option.some.inj (hv20.symm.trans hX20); subst hv20; clear hX20 hcc20 hcl20; have UU20 := Aside0.mk (show Kd.R (Kd.int .i64) 3 _ w.heap.size oki20 (.slice A328_0 (rd_L1 y325 x18_2).length c328_0) (rd_L1 y325 x18_2) from ge20_0); have HH20 := Aside0.mk hH20; have HN20 := Aside0.mk (Kd.S_reads' HO327.out).1; clear hH20 ge20_0) | ((with_reducible refine gate_builtin (b := .append) (xs := #[.tmp 35, .tmp 37]) rfl ?_); at_builtin; refine Kd.R_append (Kd.int .i64) (w0 := w) w.heap.size rfl (.tmp 35) (.tmp 37) 22 3 (.int .i64 0) 8 rfl Try.underlying22 info3 rfl (by decide) (by omega) (.slice A328_0 (rd_L1 y325 x18_2).length c328_0) (rd_L1 y325 x18_2) (rd (rd_L1 l0_1 x12_1) x18_2) [.int .i64 (rd (rd_L1 l0_1 x12_1) x18_2)] (fun k_ => oki20 k_ ∨ ((fun _ => True)) k_ ∧ w18.heap.size ≤ k_) (fun _ => False) rfl rfl ?aP (fun _ hk => hk.elim) ?aF ?aO ?aB ?aS ?aL ?_; (case aP => first | exact rfl | exact ⟨_, rfl, Kd.R_nil _ _ _ _ _⟩); (case aB => exact (by repeat (first | (with_reducible first | exact HB.out | apply below_alloc | apply pw_below_drewN | apply below_drew1 | refine below_set ?_ GE319.out) | exact HB.out))); (case aF => exact (fun k_ hk => .inr ⟨trivial, hk⟩)); (case aO => exact (by (with_reducible repeat (first | apply Kd.R_alloc | apply Kd.R_drewN | apply Kd.R_drew)); exact Kd.R_mono UU20.out (fun _ hk => .inl hk))); (case aS => exact (below_size (by repeat (first | (with_reducible first | exact HB.out | apply below_alloc | apply pw_below_drewN | apply below_drew1 | refine below_set ?_ GE319.out) | exact HB.out)))); (case aL => have := LMc15.out; omega); intro v330 w21 ho hb hg hat; rw [← Ny329.out] at ho; have n0_ := Aside0.mk (blk_grown (g := gb319) (o := .cells #[.slice A0_0 l0_0.length c0_0, .slice (some ad323) l0_1.length c0_1] 28 (0, 0)) (by (with_reducible repeat (first | refine blk_drewN ?_ _ | refine blk_drew ?_ | refine blk_alloc ?_ _)); exact BK319.out) hg (Kd.R_ne HL328_0.out BK319.out (by decide))); have n1_ := Aside0.mk (hb); have n2_ := Aside0.mk (Kd.H_grown (Kd.H_widen (by repeat (first | exact HH20.out | refine Kd.H_alloc ?_ _ | refine Kd.H_drewN ?_ _ | refine Kd.H_drew ?_))) hg (fun k_ e_ => .inl (UU20.out.1 k_ e_))); have n3_ := Aside0.mk (ho); clear BK319; clear HB; clear HH20; clear HO327; clear UU20; clear HL328_0; have BK319 := n0_; have HB := n1_; have HH20 := n2_; have HO331 := n3_; clear n0_ n1_ n2_ n3_; clear ho hb hg hat; have p16 : 0 ≤ (x18_2 : Int) := of_decide_eq_true (by first | (with_reducible assumption) | assumption); have q16 : (x18_2 : Int) < ((y325.length : Int) : Int) := of_decide_eq_true (by first | (with_reducible assumption) | assumption); replace p16 := eq_true p16; replace q16 := eq_true q16; obtain ⟨Ao24, co24, eo24⟩ := Kd.R_slice HO331.out; subst eo24; obtain ⟨_, _, hraw22, _, _, hcc22, _⟩ := Kd.H_raw HH20.out (of_decide_eq_true (by first | (with_reducible assumption) | assumption)) (by have h_ : (x18_2 : Int) < ((y325.length : Int) : Int) := of_decide_eq_true (by first | (with_reducible assumption) | assumption); first | exact h_ | (have e_ := (HN20.out); omega) | simpa using h_); obtain ⟨_, hfr22⟩ := Kd.H_at HH20.out (of_decide_eq_true (by first | (with_reducible assumption) | assumption)) (by have h_ : (x18_2 : Int) < ((y325.length : Int) : Int) := of_decide_eq_true (by first | (with_reducible assumption) | assumption); first | exact h_ | (have e_ := (HN20.out); omega) | simpa using h_); have hx22_0 := hcc22 0 _ rfl; have hf22_0 := hfr22 0; (try simp only [Nat.add_zero] at hx22_0 hf22_0); (try rw [show ((Kd.slice 3 (Kd.int .i64))).sz = 1 from rfl, Nat.mul_one] at hx22_0); (try rw [show ((Kd.slice 3 (Kd.int .i64))).sz = 1 from rfl, Nat.mul_one] at hf22_0); have HP22 := Kd.S_seg0 HH20.out (of_decide_eq_true (by first | (with_reducible assumption) | assumption)) (by have h_ : (x18_2 : Int) < ((y325.length : Int) : Int) := of_decide_eq_true (by first | (with_reducible assumption) | assumption); first | exact h_ | (have e_ := (HN20.out); omega) | simpa using h_) (seg := [.slice Ao24 y329.length co24]) (j := 0) (show 1 ≤ 1 from by decide) (x' := y329) (Kd.M_row HO331.out) (fun _ hk => hk); (try simp only [show ((Kd.slice 3 (Kd.int .i64))).sz = 1 from rfl, Nat.mul_one, Nat.add_zero] at HP22); clear hcc22 hfr22) | ((with_reducible refine gate_store (t := 22) (p := 39) rfl ?_); refine store_event (t := 22) (p := 39) (v := ?vo_w23) (w1 := (w21.setCell ⟨go20, (x18_2 : Int).toNat, none⟩ (.slice Ao24 y329.length co24))) ?hg ?ho ?hn ?hr ?_; (case ho => rfl); (case hg => rfl); (case hn => rfl); (case hr => first | (go_simp; done) | (go_simp; rfl)); intro w23 hw; have hg : w21.grownBy w23 (some go20) := (by rw [hw]; exact HP22.2); have hp_ : Kd.S (Kd.slice 3 (Kd.int .i64)) 22 w23 w.heap.size (fun _ => True) (.slice (some ⟨go20, 0, none⟩) y325.length co19) y332 := (by rw [hw, Ny332.out]; exact HP22.1); clear HP22; have n0_ := Aside0.mk (blk_grown (g := gb319) (o := .cells #[.slice A0_0 l0_0.length c0_0, .slice (some ad323) l0_1.length c0_1] 28 (0, 0)) (by (with_reducible repeat (first | refine blk_drewN ?_ _ | refine blk_drew ?_ | refine blk_alloc ?_ _)); exact BK319.out) hg (Kd.R_ne hraw22 BK319.out (by decide))); have n1_ := Aside0.mk ((by rw [hw]; exact below_set HB.out GB20.out : Below w.heap.size w w23)); have n2_ := Aside0.mk (hp_); clear BK319; clear HB; clear HO331; clear HH20; have BK319 := n0_; have HB := n1_; have HO327 := n2_; clear n0_ n1_ n2_; clear hg hw hp_ hraw22))
               go_roundg k2
               case measure => have := HK1.out; have := HK2.out; omega
               case rel => exact ⟨(y332), (wrap64 (x18_2 + 1)), (by first | rfl | (simp; done) | (simp [*]; done)), H', ⟨by have := HK1.out; have := HK2.out; omega⟩, ⟨by (with_reducible repeat (first | apply Kd.S_alloc | apply Kd.S_drewN | apply Kd.S_drew)); exact HO327.out⟩, ⟨by (with_reducible repeat (first | refine blk_drewN ?_ _ | refine blk_drew ?_ | refine blk_alloc ?_ _)); exact BK319.out⟩, ⟨by repeat (first | (with_reducible first | exact HB.out | apply below_alloc | apply pw_below_drewN | apply below_drew1 | refine below_set ?_ GE319.out) | exact HB.out)⟩⟩
              ·rw [if_neg c15] at H
               exact absurd H (by simp)
             ·rw [if_neg c14] at H
              exact absurd H (by simp)
            ·rw [if_neg c13] at H
             exact absurd H (by simp)
           ·rw [if_neg c12] at H
            have c12b0 : (x18_2 == (x3_2.length : Int)) = false := beq_eq_false_iff_ne.mpr c12
            have c12b1 : (x18_2 != (x3_2.length : Int)) = true := bne_iff_ne.mpr c12
            by_cases c25 : x18_2 < (x3_2.length : Int)
            ·rw [if_pos c25] at H
             have c25b0 : decide (x18_2 < (x3_2.length : Int)) = true := decide_eq_true c25
             clear c25
             by_cases c26 : (rd_L1 x3_2 x18_2).length < 17592186044416
             ·rw [if_pos c26] at H
              have LMc26 := Aside0.mk c26
              clear c26
              obtain ⟨y334, hy334⟩ : ∃ y_ : List Int, y_ = ((rd_L1 x3_2 x18_2) ++ [rd (rd_L1 l0_1 x12_1) x18_2]) := ⟨_, rfl⟩
              replace H : (impl_columnsOf.l1 k2 (x3_2.set (x18_2 : Int).toNat y334) l0_1 (l0_1.length : Int) x12_1 (rd_L1 l0_1 x12_1) ((rd_L1 l0_1 x12_1).length : Int) (wrap64 (x18_2 + 1))) = some r := by first | (rw [hy334]; with_reducible exact H) | (have H2_ := (Option.bind_some _ _).symm.trans H; rw [hy334]; with_reducible exact H2_) | (have H2_ := (Option.bind_some _ _).symm.trans H; with_reducible exact H2_) | with_reducible exact H | (rw [hy334]; exact H) | exact H
              have Ny334 := Aside0.mk hy334
              clear hy334
              obtain ⟨y337, hy337⟩ : ∃ y_ : List (List Int), y_ = (x3_2.set (x18_2 : Int).toNat y334) := ⟨_, rfl⟩
              replace H : (impl_columnsOf.l1 k2 y337 l0_1 (l0_1.length : Int) x12_1 (rd_L1 l0_1 x12_1) ((rd_L1 l0_1 x12_1).length : Int) (wrap64 (x18_2 + 1))) = some r := by first | (rw [hy337]; with_reducible exact H) | (have H2_ := (Option.bind_some _ _).symm.trans H; rw [hy337]; with_reducible exact H2_) | (have H2_ := (Option.bind_some _ _).symm.trans H; with_reducible exact H2_) | with_reducible exact H | (rw [hy337]; exact H) | exact H
              have Ny337 := Aside0.mk hy337
              clear hy337
              have H' := Aside0.mk H
              clear H
              have p324 : 0 ≤ (x18_2 : Int) := of_decide_eq_true (by first | (with_reducible assumption) | assumption)
              have q324 : x18_2 < ((rd_L1 l0_1 x12_1).length : Int) := of_decide_eq_true (by first | (with_reducible assumption) | assumption)
              obtain ⟨ad324, e324, hx324_0⟩ := Kd.at_int HR323_0.out x18_2 p324 q324
              cases e324
              replace hx324_0 := (HB.out.cell (World.block_lt_of_cell? w _ hx324_0)).trans hx324_0
              replace p324 := eq_true p324
              replace q324 := eq_true q324
              obtain ⟨Ao28, co28, eo28⟩ := Kd.S_slice HO_3.out
              subst eo28
              have p333 : 0 ≤ (x18_2 : Int) := of_decide_eq_true (by first | (with_reducible assumption) | assumption)
              have q333 : x18_2 < (x3_2.length : Int) := of_decide_eq_true (by first | (with_reducible assumption) | assumption)
              obtain ⟨ad333, A333_0, c333_0, e333, hx333_0, hl333_0, hi333_0⟩ := at_L1 (Kd.S_reads' HO_3.out).2.2 x18_2 p333 q333
              cases e333
              obtain ⟨ce333, hce333, hMe333, hcc333⟩ := Kd.S_get HO_3.out [] x18_2 p333 (by first | exact q333 | exact of_decide_eq_true (by first | (with_reducible assumption) | assumption) | (have e_ := (Kd.S_reads' HO_3.out).1; omega))
              obtain ⟨ve333_0, rfl, ge333_0⟩ := hMe333
              have hv333_0 := hcc333 0 _ rfl
              rw [Nat.add_zero, show ((Kd.slice 3 (Kd.int .i64))).sz = 1 from rfl, Nat.mul_one] at hv333_0
              replace hv333_0 := Option.some.inj (hv333_0.symm.trans hx333_0)
              rw [hv333_0] at ge333_0
              have HL333_0 := Aside0.mk (show Kd.R (Kd.int .i64) 3 _ _ _ _ (rd_L1 x3_2 x18_2) from ge333_0)
              clear hv333_0 ge333_0
              have HX333_0 := Aside0.mk hx333_0
              clear hcc333 hce333
              have HR333_0 := Aside0.mk hi333_0
              have HC333_0 := Aside0.mk hl333_0
              clear hi333_0 hl333_0
              replace p333 := eq_true p333
              replace q333 := eq_true q333
              obtain ⟨go29, co29, eo29, gb29, gl29, cl29, HG29⟩ := Kd.S_form HO_3.out (by have h_ : (x18_2 : Int) < ((x3_2.length : Int) : Int) := of_decide_eq_true (by first | (with_reducible assumption) | assumption); have h2_ : 0 ≤ (x18_2 : Int) := (of_decide_eq_true (by first | (with_reducible assumption) | assumption)); omega)
              (first | cases eo29 | (injection eo29 with ea_ en_ ec_; (first | subst ea_ | (injection ea_ with ea_; subst ea_)); subst ec_; clear en_))
              have GB29 := Aside0.mk gb29
              have GG29 := Aside0.mk HG29
              clear gb29 gl29 HG29
              (first | simp only [add_plain] at hx333_0 | skip)
              obtain ⟨oki29, ce29, hcl29, hM29, hcc29, _, _, hH29⟩ := Kd.S_elem HO_3.out [] (x18_2 : Int) (of_decide_eq_true (by first | (with_reducible assumption) | assumption)) (by have h_ : (x18_2 : Int) < ((x3_2.length : Int) : Int) := of_decide_eq_true (by first | (with_reducible assumption) | assumption); first | exact h_ | (have e_ := (Kd.S_reads' HO_3.out).1; omega) | simpa using h_)
              obtain ⟨ve29_0, rfl, ge29_0⟩ := hM29
              have hv29 := hcc29 0 _ rfl
              have hX29 := HX333_0.out
              (try simp only [add_plain] at hX29)
              (try simp only [Nat.add_zero] at hv29)
              (try rw [show ((Kd.slice 3 (Kd.int .i64))).sz = 1 from rfl, Nat.mul_one] at hv29)
              replace hv29 := Option.some.inj (hv29.symm.trans hX29)
              subst hv29
              clear hX29 hcc29 hcl29
              have UU29 := Aside0.mk (show Kd.R (Kd.int .i64) 3 _ w.heap.size oki29 (.slice A333_0 (rd_L1 x3_2 x18_2).length c333_0) (rd_L1 x3_2 x18_2) from ge29_0)
              have HH29 := Aside0.mk hH29
              have HN29 := Aside0.mk (Kd.S_reads' HO_3.out).1
              clear hH29 ge29_0
              go_wp2_with (first | ((with_reducible refine gate_builtin (b := .append) (xs := #[.tmp 35, .tmp 37]) rfl ?_); at_builtin; refine Kd.R_append (Kd.int .i64) (w0 := w) w.heap.size rfl (.tmp 35) (.tmp 37) 22 3 (.int .i64 0) 8 rfl Try.underlying22 info3 rfl (by decide) (by omega) (.slice A333_0 (rd_L1 x3_2 x18_2).length c333_0) (rd_L1 x3_2 x18_2) (rd (rd_L1 l0_1 x12_1) x18_2) [.int .i64 (rd (rd_L1 l0_1 x12_1) x18_2)] (fun k_ => oki29 k_ ∨ ((fun _ => True)) k_ ∧ wr.heap.size ≤ k_) (fun _ => False) rfl rfl ?aP (fun _ hk => hk.elim) ?aF ?aO ?aB ?aS ?aL ?_; (case aP => exact rfl); (case aB => exact (by repeat (first | (with_reducible first | exact HB.out | apply below_alloc | apply pw_below_drewN | apply below_drew1 | refine below_set ?_ GE319.out) | exact HB.out))); (case aF => exact (fun k_ hk => .inr ⟨trivial, hk⟩)); (case aO => exact (by (with_reducible repeat (first | apply Kd.R_alloc | apply Kd.R_drewN | apply Kd.R_drew)); exact Kd.R_mono UU29.out (fun _ hk => .inl hk))); (case aS => exact (below_size (by repeat (first | (with_reducible first | exact HB.out | apply below_alloc | apply pw_below_drewN | apply below_drew1 | refine below_set ?_ GE319.out) | exact HB.out)))); (case aL => have := LMc26.out; omega); intro v335 w30 ho hb hg hat; rw [← Ny334.out] at ho; have n0_ := Aside0.mk (blk_grown (g := gb319) (o := .cells #[.slice A0_0 l0_0.length c0_0, .slice (some ad323) l0_1.length c0_1] 28 (0, 0)) (by (with_reducible repeat (first | refine blk_drewN ?_ _ | refine blk_drew ?_ | refine blk_alloc ?_ _)); exact BK319.out) hg (Kd.R_ne HL333_0.out BK319.out (by decide))); have n1_ := Aside0.mk (hb); have n2_ := Aside0.mk (Kd.H_grown (Kd.H_widen (by repeat (first | exact HH29.out | refine Kd.H_alloc ?_ _ | refine Kd.H_drewN ?_ _ | refine Kd.H_drew ?_))) hg (fun k_ e_ => .inl (UU29.out.1 k_ e_))); have n3_ := Aside0.mk (ho); clear BK319; clear HB; clear HH29; clear HO_3; clear UU29; clear HL333_0; have BK319 := n0_; have HB := n1_; have HH29 := n2_; have HO336 := n3_; clear n0_ n1_ n2_ n3_; clear ho hb hg hat; have p27 : 0 ≤ (x18_2 : Int) := of_decide_eq_true (by first | (with_reducible assumption) | assumption); have q27 : (x18_2 : Int) < ((x3_2.length : Int) : Int) := of_decide_eq_true (by first | (with_reducible assumption) | assumption); replace p27 := eq_true p27; replace q27 := eq_true q27; obtain ⟨Ao33, co33, eo33⟩ := Kd.R_slice HO336.out; subst eo33; obtain ⟨_, _, hraw31, _, _, hcc31, _⟩ := Kd.H_raw HH29.out (of_decide_eq_true (by first | (with_reducible assumption) | assumption)) (by have h_ : (x18_2 : Int) < ((x3_2.length : Int) : Int) := of_decide_eq_true (by first | (with_reducible assumption) | assumption); first | exact h_ | (have e_ := (HN29.out); omega) | simpa using h_); obtain ⟨_, hfr31⟩ := Kd.H_at HH29.out (of_decide_eq_true (by first | (with_reducible assumption) | assumption)) (by have h_ : (x18_2 : Int) < ((x3_2.length : Int) : Int) := of_decide_eq_true (by first | (with_reducible assumption) | assumption); first | exact h_ | (have e_ := (HN29.out); omega) | simpa using h_); have hx31_0 := hcc31 0 _ rfl; have hf31_0 := hfr31 0; (try simp only [Nat.add_zero] at hx31_0 hf31_0); (try rw [show ((Kd.slice 3 (Kd.int .i64))).sz = 1 from rfl, Nat.mul_one] at hx31_0); (try rw [show ((Kd.slice 3 (Kd.int .i64))).sz = 1 from rfl, Nat.mul_one] at hf31_0); have HP31 := Kd.S_seg0 HH29.out (of_decide_eq_true (by first | (with_reducible assumption) | assumption)) (by have h_ : (x18_2 : Int) < ((x3_2.length : Int) : Int) := of_decide_eq_true (by first | (with_reducible assumption) | assumption); first | exact h_ | (have e_ := (HN29.out); omega) | simpa using h_) (seg := [.slice Ao33 y334.length co33]) (j := 0) (show 1 ≤ 1 from by decide) (x' := y334) (Kd.M_row HO336.out) (fun _ hk => hk); (try simp only [show ((Kd.slice 3 (Kd.int .i64))).sz = 1 from rfl, Nat.mul_one, Nat.add_zero] at HP31); clear hcc31 hfr31) | ((with_reducible refine gate_store (t := 22) (p := 39) rfl ?_); refine store_event (t := 22) (p := 39) (v := ?vo_w32) (w1 := (w30.setCell ⟨go29, (x18_2 : Int).toNat, none⟩ (.slice Ao33 y334.length co33))) ?hg ?ho ?hn ?hr ?_; (case ho => rfl); (case hg => rfl); (case hn => rfl); (case hr => first | (go_simp; done) | (go_simp; rfl)); intro w32 hw; have hg : w30.grownBy w32 (some go29) := (by rw [hw]; exact HP31.2); have hp_ : Kd.S (Kd.slice 3 (Kd.int .i64)) 22 w32 w.heap.size (fun _ => True) (.slice (some ⟨go29, 0, none⟩) x3_2.length co28) y337 := (by rw [hw, Ny337.out]; exact HP31.1); clear HP31; have n0_ := Aside0.mk (blk_grown (g := gb319) (o := .cells #[.slice A0_0 l0_0.length c0_0, .slice (some ad323) l0_1.length c0_1] 28 (0, 0)) (by (with_reducible repeat (first | refine blk_drewN ?_ _ | refine blk_drew ?_ | refine blk_alloc ?_ _)); exact BK319.out) hg (Kd.R_ne hraw31 BK319.out (by decide))); have n1_ := Aside0.mk ((by rw [hw]; exact below_set HB.out GB29.out : Below w.heap.size w w32)); have n2_ := Aside0.mk (hp_); clear BK319; clear HB; clear HO336; clear HH29; have BK319 := n0_; have HB := n1_; have HO_3 := n2_; clear n0_ n1_ n2_; clear hg hw hp_ hraw31))
              go_roundg k2
              case measure => have := HK1.out; have := HK2.out; omega
              case rel => exact ⟨(y337), (wrap64 (x18_2 + 1)), (by first | rfl | (simp; done) | (simp [*]; done)), H', ⟨by have := HK1.out; have := HK2.out; omega⟩, ⟨by (with_reducible repeat (first | apply Kd.S_alloc | apply Kd.S_drewN | apply Kd.S_drew)); exact HO_3.out⟩, ⟨by (with_reducible repeat (first | refine blk_drewN ?_ _ | refine blk_drew ?_ | refine blk_alloc ?_ _)); exact BK319.out⟩, ⟨by repeat (first | (with_reducible first | exact HB.out | apply below_alloc | apply pw_below_drewN | apply below_drew1 | refine below_set ?_ GE319.out) | exact HB.out)⟩⟩
             ·rw [if_neg c26] at H
              exact absurd H (by simp)
            ·rw [if_neg c25] at H
             exact absurd H (by simp)
          ·rw [if_neg c11] at H
           exact absurd H (by simp)
         ·rw [if_neg c10] at H
          exact absurd H (by simp)
        ·rw [if_neg c9] at H
         have c9b0 : decide (x18_2 < ((rd_L1 l0_1 x12_1).length : Int)) = false := decide_eq_false c9
         clear c9
         have H' := Aside0.mk H
         clear H
         go_wp2
         go_roundg k2
         case measure => have := HK1.out; have := HK2.out; omega
         case rel => exact ⟨(x3_2), (wrap64 (x12_1 + 1)), (by first | rfl | (simp; done) | (simp [*]; done)), H', ⟨by have := HK1.out; have := HK2.out; omega⟩, ⟨by (with_reducible repeat (first | apply Kd.S_alloc | apply Kd.S_drewN | apply Kd.S_drew)); exact HO_3.out⟩, ⟨by (with_reducible repeat (first | refine blk_drewN ?_ _ | refine blk_drew ?_ | refine blk_alloc ?_ _)); exact BK319.out⟩, ⟨by repeat (first | (with_reducible first | exact HB.out | apply below_alloc | apply pw_below_drewN | apply below_drew1 | refine below_set ?_ GE319.out) | exact HB.out)⟩⟩
     ·rw [if_neg c8] at H
      exact absurd H (by simp)
    ·rw [if_neg c7] at H
     exact absurd H (by simp)
   ·rw [if_neg c6] at H
    have c6b0 : decide (x12_1 < (l0_1.length : Int)) = false := decide_eq_false c6
    clear c6
    obtain rfl := Option.some.inj H
    go_wp2
    go_ret
    exact ⟨_, by first | rfl | (simp [errW_none, errW_some] <;> rfl) | (simp [*, errW_none, errW_some] <;> rfl), by (with_reducible repeat (first | apply Kd.S_alloc | apply Kd.S_drewN | apply Kd.S_drew)); exact HO_3.out, by repeat (first | (with_reducible first | exact HB.out | apply below_alloc | apply pw_below_drewN | apply below_drew1 | refine below_set ?_ GE319.out) | exact HB.out)⟩

def impl_ofColumns.f (k : Nat) (l0 : List (List Int)) : Option (List Int × (List (List Int))) := (impl_columnsOf.f k ([] : List Int) l0).bind fun t339 => (some (([] : List Int), t339))
theorem impl_ofColumns.mono : ∀ a0 k, LeO (impl_ofColumns.f k a0) (impl_ofColumns.f (k + 1) a0) := by
 intro a0 k
 unfold impl_ofColumns.f
 repeat' first
   | (with_reducible exact impl_columnsOf.mono _ _ _)
   | (with_reducible exact LeO.refl _)
   | (with_reducible exact LeO.none _)
   | (with_reducible refine LeO.ite ?_ ?_)
   | (with_reducible refine LeO.bind ?_ (fun _ => ?_))
   | exact impl_columnsOf.mono _ _ _
   | exact LeO.none _
   | refine LeO.ite ?_ ?_
   | refine LeO.bind ?_ (fun _ => ?_)
set_option maxHeartbeats 8000000 in
set_option maxRecDepth 100000 in
theorem impl_ofColumns.calls (k : Nat) (A0 : Option Addr) (c0 : Nat) (l0 : List (List Int)) (r1 : List Int) (r2 : List (List Int)) (w : World) (hr0 : Kd.C (Kd.slice 3 (Kd.int .i64)) w A0 l0.length l0) (hc0 : l0.length ≤ c0) (h : impl_ofColumns.f k l0 = some (r1, r2)) :
  Calls Try.prog 65 #[.slice A0 l0.length c0] w fun e w' => ∃ v0_ v1_ : Value, e = .returned (.agg #[v0_, v1_]) ∧ Kd.R (Kd.int .i64) 3 w' w.heap.size (fun _ => True) v0_ r1 ∧ Kd.S (Kd.slice 3 (Kd.int .i64)) 22 w' w.heap.size (fun k_ => some k_ ≠ (v0_ : Value).ownBlock) v1_ r2 ∧ Below w.heap.size w w' := by
 have hu28 := Try.underlying28
 have HR0 := Aside0.mk hr0
 have HC0 := Aside0.mk hc0
 clear hr0 hc0
 have HB := Aside0.mk (Below.refl w.heap.size w)
 have H : ((impl_columnsOf.f k ([] : List Int) l0).bind fun t339 => (some (([] : List Int), t339))) = some (r1, r2) := h
 clear h
 replace H := Option.bind_eq_some_iff.mp H
 obtain ⟨t339, A20, H⟩ := H
 replace H : (some (([] : List Int), t339)) = some (r1, r2) := H
 have A2 := Aside0.mk A20
 clear A20
 simp only [Option.some.injEq, Prod.mk.injEq] at H
 obtain ⟨rfl, rfl⟩ := H
 go_enter Try.func65, Try.ntmps65
 go_wp2_with (first | ((with_reducible refine gate_dst (N := 2) rfl ?_); refine zX (N := 2) (cs := #[.slice none 0 0, .slice none 0 0]) (t := 28) ?_; intro gb338 hg w3 hbox hb; have n0_ := Aside0.mk (below_step (by repeat (first | (with_reducible first | exact HB.out | apply below_alloc | apply pw_below_drewN | apply below_drew1) | exact HB.out)) hb); have n1_ := Aside0.mk (hbox); have n2_ := Aside0.mk ((by rw [hg]; exact (below_size (by repeat (first | (with_reducible first | exact HB.out | apply below_alloc | apply pw_below_drewN | apply below_drew1) | exact HB.out))) : w.heap.size ≤ gb338)); have n3_ := Aside0.mk ((by rw [hg]; exact (below_size (by repeat (first | (with_reducible first | exact HB.out | apply below_alloc | apply pw_below_drewN | apply below_drew1) | exact HB.out))) : w.heap.size ≤ gb338)); clear HB; have HB := n0_; have BK338 := n1_; have GW338 := n2_; have GE338 := n3_; clear n0_ n1_ n2_ n3_; clear hb hbox hg) | ((with_reducible refine gate_callee (f := 67) rfl ?_); refine zG (some 5) Try.func67 #[.agg #[.slice none 0 0, .slice A0 l0.length c0]] ?_; (refine (impl_columnsOf.calls k _ _ ([] : List Int) _ _ l0 t339 _ ?side1 ?side2 ?side3 ?side4 A2.out).mono ?_); (case side1 => exact Kd.C_nil _ _); (case side2 => exact Nat.le_refl _); (case side3 => repeat (first | exact (Kd.C_below HR0.out HB.out) | (with_reducible refine Kd.C_alloc ?_ _) | (with_reducible refine Kd.C_drewN ?_ _) | (with_reducible refine Kd.C_drew ?_))); (case side4 => exact HC0.out); rintro e w4 ⟨v340, rfl, ho0, hb⟩; refine ⟨_, rfl, ?_⟩; have n0_ := Aside0.mk (Kd.S_lower ho0 (below_size (by repeat (first | (with_reducible first | exact HB.out | apply below_alloc | apply pw_below_drewN | apply below_drew1 | refine below_set ?_ GE338.out) | exact HB.out)))); have n1_ := Aside0.mk (blk_below (g := gb338) (o := .cells #[.slice none 0 0, .slice none 0 0] 28 (0, 0)) (by (with_reducible repeat (first | refine blk_drewN ?_ _ | refine blk_drew ?_ | refine blk_alloc ?_ _)); exact BK338.out) hb); have n2_ := Aside0.mk (below_step (by repeat (first | (with_reducible first | exact HB.out | apply below_alloc | apply pw_below_drewN | apply below_drew1 | refine below_set ?_ GE338.out) | exact HB.out)) hb); clear BK338; clear HB; have HO341 := n0_; have BK338 := n1_; have HB := n2_; clear n0_ n1_ n2_; (try clear hb); (try clear hb2); (try clear hk); (try clear hi); (try clear ho0); obtain ⟨Ao5, co5, eo5⟩ := Kd.S_slice HO341.out; subst eo5; have hcz6_0 : w4.cell? ⟨gb338, 0, none⟩ = some (.slice none 0 0) := (blk_cell BK338.out 0).trans rfl; have hcz6_1 : w4.cell? ⟨gb338, 1, none⟩ = some (.slice none 0 0) := (blk_cell BK338.out 1).trans rfl; have hfz6_0 := blk_frozen BK338.out 0; have hfz6_1 := blk_frozen BK338.out 1))
 refine bodyPost_ret (results_cell_row rfl _ _ gb338 28 #[.slice none 0 0, .slice Ao5 t339.length co5] (0, 0) _ rfl (by (with_reducible repeat (first | refine blk_drewN ?_ _ | refine blk_drew ?_ | refine blk_alloc ?_ _)); refine blk_put (cs := #[.slice none 0 0, .slice none 0 0]) ?_ 1 _ rfl; (with_reducible repeat (first | refine blk_drewN ?_ _ | refine blk_drew ?_ | refine blk_alloc ?_ _)); refine blk_put (cs := #[.slice none 0 0, .slice none 0 0]) ?_ 0 _ rfl; (with_reducible repeat (first | refine blk_drewN ?_ _ | refine blk_drew ?_ | refine blk_alloc ?_ _)); exact BK338.out) Try.underlying28 rfl (by kernel_rfl)) rfl ?_
 exact ⟨_, _, by first | rfl | (simp [errW_none, errW_some] <;> rfl) | (simp [*, errW_none, errW_some] <;> rfl), by first | exact Kd.R_nil _ _ _ _ _ | exact Kd.N_nil _ _ _ _ _ | exact Kd.V_nil _ _ _ _ _ | exact Kd.Q_nil _ _ _ _ _ | exact Kd.S_nil _ _ _ _ _, by (with_reducible repeat (first | apply Kd.S_alloc | apply Kd.S_drewN | apply Kd.S_drew)); exact Kd.S_mono (Kd.S_far (p := ⟨gb338, 1, none⟩) (Kd.S_far (p := ⟨gb338, 0, none⟩) (Kd.S_types HO341.out BK338.out (by decide)) (fun _ hk => hk.2) (.slice none 0 0)) (fun _ hk => hk.2) (.slice Ao5 t339.length co5)) (fun _ hk => (by simp [Value.ownBlock])), by repeat (first | (with_reducible first | exact HB.out | apply below_alloc | apply pw_below_drewN | apply below_drew1 | refine below_set ?_ GE338.out) | exact HB.out)⟩

def idxFrom (p : Int → Bool) : List Int → Nat → Int
  | [], _ => -1
  | x :: l, i => if p x then (i : Int) else idxFrom p l (i + 1)
theorem idxFrom_hit (p : Int → Bool) (l : List Int) : ∀ (n k : Nat), n < l.length → (∀ j, j < n → p (l.getD j 0) = false) → p (l.getD n 0) = true → idxFrom p l k = ((k + n : Nat) : Int) := by
  induction l with
  | nil => intro n k h; simp at h
  | cons x l ih =>
    intro n k h h1 h2
    cases n with
    | zero => simp at h2; simp [idxFrom, h2]
    | succ n =>
      have := h1 0 (by omega)
      simp at this
      simp only [idxFrom, this]
      rw [if_neg (by simp), ih n (k + 1) (by simpa using h) (fun j hj => by have := h1 (j + 1) (by omega); simpa using this) (by simpa using h2)]
      congr 1; omega
theorem idxFrom_miss (p : Int → Bool) (l : List Int) : ∀ (k : Nat), (∀ j, j < l.length → p (l.getD j 0) = false) → idxFrom p l k = -1 := by
  induction l with
  | nil => intros; rfl
  | cons x l ih =>
    intro k h
    have := h 0 (by simp)
    simp at this
    simp only [idxFrom, this]
    rw [if_neg (by simp), ih (k + 1) (fun j hj => by have := h (j + 1) (by simpa using hj); simpa using this)]
theorem drawn_after {w w1 w2 : World} (h1 : Drawn0 w w1) (h2 : Drawn0 w1 w2) : Drawn0 w w2 := by
  obtain ⟨n1, rfl⟩ := h1.out
  obtain ⟨n2, rfl⟩ := h2.out
  exact ⟨⟨n1 + n2, World.drewN_drewN ..⟩⟩
def PredG (g : Nat) (lb : Array Value) (p : Int → Bool) (w : World) : Prop :=
  ∀ (W : World) (x : Int), Drawn0 w W → Calls Try.prog g (#[.int .i64 x] ++ lb) W fun e w' => e = .returned (.bool (p x)) ∧ Drawn0 W w'
set_option maxHeartbeats 2000000 in
theorem indexFunc_pred (g : Nat) (lb : Array Value) (p : Int → Bool) (eg : ∀ args w, (callFunc g args).run Try.prog w = .ok (.enter g args) w) (A0 : Option Addr) (c0 : Nat) (l0 : List Int) (w : World)
    (hp : PredG g lb p w) (hr0 : Kd.C (Kd.int .i64) w A0 l0.length l0) :
    Calls Try.prog 87 #[.slice A0 l0.length c0, .func (.func g) #[] lb] w fun e w' => e = .returned (.int .i64 (idxFrom p l0 0)) ∧ Drawn0 w w' := by
  have HR0 := Aside0.mk hr0
  have HP := Aside0.mk hp
  have hlen : l0.length ≤ 9223372036854775807 := hr0.2.1
  clear hr0 hp
  go_enter Try.func87, Try.ntmps87
  go_wp2
  go_loopg [5, 8] l0.length (fun gg _ s8 wr => ∃ kk : Nat, kk ≤ l0.length ∧ l0.length - kk ≤ gg ∧ s8 = .int .i64 kk ∧ Aside0 (Drawn0 w wr) ∧ Aside0 (∀ j, j < kk → p (l0.getD j 0) = false))
  case atStart => exact ⟨0, Nat.zero_le _, by omega, rfl, ⟨Drawn0.refl w⟩, ⟨fun j hj => absurd hj (Nat.not_lt_zero _)⟩⟩
  case round =>
    obtain ⟨kk, hkk, hg, rfl, BW, A⟩ := hrel
    by_cases hlt : kk < l0.length
    · have hltz : (kk : Int) < (l0.length : Int) := by omega
      obtain ⟨ad, e1, hx⟩ := Kd.at_int HR0.out (kk : Int) (by omega) hltz
      cases e1
      rw [Int.toNat_natCast] at hx
      replace hx := (BW.out.below.cell (World.block_lt_of_cell? w _ hx)).trans hx
      have hcall := HP.out wr (rd l0 kk) BW.out
      have B : Aside0 (rd l0 kk = l0.getD kk 0) := ⟨by unfold rd; congr 1⟩
      generalize rd l0 kk = y at hx hcall B
      cases hq : p y with
      | true =>
        have Q : Aside0 (p y = true) := ⟨hq⟩
        rw [hq] at hcall
        clear hq
        go_wp2_with (go_at_fn g; refine hcall.mono ?_; rintro e w' ⟨rfl, hb'⟩)
        go_ret
        refine ⟨?_, drawn_after BW.out hb'⟩
        rw [idxFrom_hit p l0 kk 0 hlt A.out (by rw [← B.out]; exact Q.out)]; simp
      | false =>
        have Q : Aside0 (p y = false) := ⟨hq⟩
        rw [hq] at hcall
        clear hq
        go_wp2_with (go_at_fn g; refine hcall.mono ?_; rintro e w' ⟨rfl, hb'⟩)
        go_roundg (l0.length - (kk + 1))
        case measure => omega
        case rel =>
          refine ⟨kk + 1, by omega, by omega, by go_num, ⟨drawn_after BW.out hb'⟩, ⟨fun j hj => ?_⟩⟩
          by_cases e : j = kk
          · subst e
            rw [← B.out]; exact Q.out
          · exact A.out j (by omega)
    · have hltz : ¬ (kk : Int) < (l0.length : Int) := by omega
      have : kk = l0.length := by omega
      subst this
      go_wp2
      go_ret
      refine ⟨?_, BW.out⟩
      rw [idxFrom_miss p l0 0 A.out]
      rfl

end Go.Proofs.Ytljjjdgnpnnmoaa.F
