/- For each Go function named below: the plain Lean function that it computes, and that its call returns just that; conditions: those that each theorem names. -/
import Derived.RangeFuncNested
import Derived.RangeFuncBound
import Derived.RangeFuncCalls
import Derived.RangeFuncLeaves
import Derived.RangeFuncFrom
import Derived.Shelf.RegionOpen
import Derived.OwnWalkIn
import Derived.TacticsInMore
import Derived.LoopNIn
import Derived.LoopIn
import Derived.Sort.BigQuietIn
import Derived.IntWalk
import Derived.Test.YtpandocpclecgaaGreatDoorF0
import Derived.Test.YtpandocpclecgaaGreatDoorF2
import Derived.Test.YtpandocpclecgaaGreatDoorF11
namespace Go.Proofs.YtpandocpclecgaaGreatDoor.F
open Go.RowKit Go.Proofs.YtpandocpclecgaaGreatDoorW.PrintWords Go.Proofs.YtpandocpclecgaaGreatDoorW.PrintLast Go.Proofs.YtpandocpclecgaaGreatDoorW.PrintMore
attribute [local go_sem] max2_int min2_int max_two min_two max_three min_three max_four min_four   -- for this text's walks alone
set_option linter.unusedVariables false
set_option linter.unusedSimpArgs false

section
open Go.Shelf
attribute [local go_sem] Oper.semAt_some
def backToR {α : Type} (el : Nat → α) (k : Nat) : List α := (List.range k).map el
theorem backToR_succ {α : Type} (el : Nat → α) (k : Nat) : backToR el (k + 1) = backToR el k ++ [el k] := by simp [backToR, List.range_succ]
theorem backToR_length {α : Type} (el : Nat → α) (k : Nat) : (backToR el k).length = k := by simp [backToR]
def BackKeepsR (n₀ Bs : Nat) (A B : World) : Prop := Below n₀ A B ∧ (Bs < A.heap.size → B.heap[Bs]? = A.heap[Bs]?) ∧ A.heap.size ≤ B.heap.size
theorem backKeeps_reflR (n₀ Bs : Nat) (A : World) : BackKeepsR n₀ Bs A A := ⟨Below.refl _ _, fun _ => rfl, Nat.le_refl _⟩
theorem backKeeps_tR {n₀ Bs : Nat} {A B C : World} (h : BackKeepsR n₀ Bs A B) (k : BackKeepsR n₀ Bs B C) : BackKeepsR n₀ Bs A C :=
  ⟨h.1.trans k.1, fun hl => (k.2.1 (Nat.lt_of_lt_of_le hl h.2.2)).trans (h.2.1 hl), Nat.le_trans h.2.2 k.2.2⟩
theorem backKeeps_bR {n₀ Bs : Nat} {w : World} (hn : n₀ ≤ w.heap.size) (hb : Bs < w.heap.size) (W : World) (l : Nat) (o o' : Obj) (hl : w.heap.size ≤ l) (h : W.heap[l]? = some o) (_ : o.isCells = false) (_ : o.isWalk = false) : BackKeepsR n₀ Bs W (W.putObj l o') := by
  have g := grownBy_putObj' W l o'
  refine ⟨(Below.refl n₀ W).grown g (by have := (Array.getElem?_eq_some_iff.1 h).1; omega) (fun k e => by cases e; omega), fun hlt => g.block Bs hlt (fun e => by cases e; omega), g.size⟩
def BackAt (W0 : World) (A : Option Addr) (N k : Nat) (vs : Array Value) : Prop := ∃ A1 n1 c1 ad, vs = #[.int .i64 ((N - 1 - k : Nat) : Int), .slice A1 n1 c1] ∧ A = some ad ∧ W0.cell? (ad.add (N - 1 - k)) = some (.slice A1 n1 c1)
set_option maxRecDepth 100000 in
set_option maxHeartbeats 2000000 in
theorem back1r_in {α : Type} (encs : α → Array Value) (el : Nat → α) (F : Fence) (n : Nat) (hf : F.fn 63) (hro : F.round = none) (hn : 1 ≤ n) (l Bs n₀ : Nat) (A : Option Addr) (N cap : Nat) (W0 : World) (hn0 : n₀ = W0.heap.size) (hlen : N ≤ 9223372036854775807) (hel : ∀ k, k < N → BackAt W0 A N k (encs (el k))) (J Jx : List α → World → Prop)
    (hY : ∀ pre x W, J pre W → pre.length < N → YieldAt F (n - 1) Tryz.prog l (encs x) W fun e W' =>
      (e = .returned (.bool true) ∧ J (pre ++ [x]) W' ∧ BackKeepsR n₀ Bs W W') ∨ (e = .returned (.bool false) ∧ Jx (pre ++ [x]) W'))
    (W : World) (hW : Below n₀ W0 W) (hBs : W.heap[Bs]? = some (.cells #[.slice A N cap] 27 (0, 0))) (h0 : J [] W) :
    CallsIn F n Tryz.prog 63 #[.func (.yield l) #[] #[], .pointer (some ⟨Bs, 0, none⟩)] W fun e W' => (∃ v, e = .returned v) ∧
      ((∃ ys, ys = backToR el N ∧ J ys W') ∨ (∃ pre, (∃ k, k ≤ N ∧ pre = backToR el k) ∧ Jx pre W')) := by
  have HEL := Aside0.mk hel
  clear hel
  refine callsIn_of_wp Tryz.func63 rfl hf ?_ hro
  simp only [Tryz.ntmps63, List.size_toArray, List.length_cons, List.length_nil, Nat.reduceAdd, Nat.reduceSub, Array.replicate_succ, Array.replicate_zero, List.push_toArray, List.append_toArray, List.nil_append, List.cons_append]
  have hz0 : W.cell? ⟨Bs, 0, none⟩ = some (.slice A N cap) := (blk_cell hBs 0).trans rfl
  gi_wp2
  gi_loopw [3] (fun i wr => ∃ k : Nat, k ≤ N ∧ i = .int .i64 ((N : Int) - 1 - (k : Int)) ∧ J (backToR el k) wr ∧ BackKeepsR n₀ Bs W wr)
    (fun i _ => (intOf i + 1).toNat)
  case atStart => exact ⟨0, Nat.zero_le _, by go_num, h0, backKeeps_reflR _ _ _⟩
  case round =>
    obtain ⟨k, hk, rfl, hJs, hnx⟩ := hrel
    have hzr : wr.cell? ⟨Bs, 0, none⟩ = some (.slice A N cap) := (blk_cell ((hnx.2.1 (blk_lt hBs)).trans hBs) 0).trans rfl
    by_cases hlt : k < N
    · have hge : (0 : Int) ≤ (N : Int) - 1 - (k : Int) := by omega
      have hub : (N : Int) - 1 - (k : Int) < (N : Int) := by omega
      have hYk := hY _ (el k) wr hJs (by rw [backToR_length]; exact hlt)
      obtain ⟨A1, n1, c1, ad, he, hA, hx0⟩ := HEL.out k hlt
      subst hA
      rw [he] at hYk
      obtain ⟨fn, tmps, assign, body, hy, hR⟩ := hYk
      have et : ((N : Int) - 1 - (k : Int)).toNat = N - 1 - k := by omega
      have ei : ((N : Int) - 1 - (k : Int)) = ((N - 1 - k : Nat) : Int) := by omega
      have hx : wr.cell? (ad.add (N - 1 - k)) = some (.slice A1 n1 c1) := by
        refine ((hW.trans hnx.1).cell ?_).trans hx0
        rw [hn0]
        exact World.block_lt_of_cell? _ _ hx0
      gi_wp2
      refine hR.mono ?_
      rintro e W3 (⟨rfl, hJ3, hk3⟩ | ⟨rfl, hJx3⟩)
      · gi_wp2
        go_roundw
        case rel => exact ⟨k + 1, by omega, by go_num, by rw [backToR_succ]; exact hJ3, backKeeps_tR hnx hk3⟩
        case measure => simp [intOf]; omega
      · gi_wp2
        refine bodyPost_ret (results_none rfl _ _ _) rfl ?_
        exact ⟨⟨_, rfl⟩, .inr ⟨_, ⟨k + 1, by omega, by rw [backToR_succ]⟩, hJx3⟩⟩
    · obtain rfl : k = N := by omega
      have hneg : ¬ (0 : Int) ≤ (k : Int) - 1 - (k : Int) := by omega
      gi_wp2
      go_end0
      first | exact ⟨⟨_, rfl⟩, .inl ⟨_, rfl, hJs⟩⟩ | exact ⟨⟨_, rfl⟩, .inl hJs⟩
set_option maxHeartbeats 1000000 in
theorem backr_in (F : Fence) (n : Nat) (hf : F.fn 45) (hro : F.round = none) (A : Option Addr) (len cap : Nat) (w : World) :
    CallsIn F n Tryz.prog 45 #[.slice A len cap] w fun e w' => e = .returned (.func (.func 63) #[] #[.pointer (some ⟨w.heap.size, 0, none⟩)]) ∧ w' = w.alloc (.cells #[.slice A len cap] 27 (0, 0)) := by
  refine callsIn_of_wp Tryz.func45 rfl hf ?_ hro
  simp only [Tryz.ntmps45, List.size_toArray, List.length_cons, List.length_nil, Nat.reduceAdd, Nat.reduceSub, Array.replicate_succ, Array.replicate_zero, List.push_toArray, List.append_toArray, List.nil_append, List.cons_append]
  gi_wp2
  go_ret
  exact ⟨rfl, rfl⟩
theorem backr_stops {α : Type} (encs : α → Array Value) (el : Nat → α) (F : Fence) (n : Nat) (hf : F.fn 63) (hro : F.round = none) (hn : 1 ≤ n) (Bs n₀ : Nat) (A : Option Addr) (N cap : Nat) (W0 w : World) (hn0 : n₀ = W0.heap.size) (hlen : N ≤ 9223372036854775807)
    (hel : ∀ k, k < N → BackAt W0 A N k (encs (el k))) (hW : Below n₀ W0 w) (hnw : n₀ ≤ w.heap.size)
    (hBs : w.heap[Bs]? = some (.cells #[.slice A N cap] 27 (0, 0))) :
    SeqStopsK F n Tryz.prog 63 #[.pointer (some ⟨Bs, 0, none⟩)] encs (BackKeepsR n₀ Bs) (fun ys => ys = backToR el N)
      (fun pre => ∃ k, k ≤ N ∧ pre = backToR el k) N w := fun l J Jx W hWW _ _ hY h0 =>
  back1r_in encs el F n hf hro hn l Bs n₀ A N cap W0 hn0 hlen hel J Jx hY W (hW.trans (hWW.mono hnw)) ((hWW.block Bs (blk_lt hBs)).trans hBs) h0
end

section
open Go.Shelf
attribute [local go_sem] Oper.semAt_some
open BigFrame
def readAll (t : List (List Int)) : List Int := t.reverse.flatten
def impl_ReadingWord.f (k : Nat) (l0_0 : List Int) (l0_1 : List (List Int)) : Option (List Int) := (impl_IsTableau.f k l0_0 l0_1).bind fun b => if b = true then (if l0_1.length * l0_1.flatten.length < 17592186044416 then some (readAll l0_1) else none) else some []
abbrev RwRow (w : World) (b : Nat) := { x : Nat × Option Addr × Nat × List Int // x.2.2.2.length ≤ b ∧ x.2.2.2.length ≤ x.2.2.1 ∧ (Kd.int .i64).C w x.2.1 x.2.2.2.length x.2.2.2 }
def rwEnc {w : World} {b : Nat} (x : RwRow w b) : Array Value := #[.int .i64 (x.1.1 : Int), .slice x.1.2.1 x.1.2.2.2.length x.1.2.2.1]
def rwRow {w : World} {b : Nat} (x : RwRow w b) : List Int := x.1.2.2.2
theorem row_le_all {r : List Int} : ∀ {l : List (List Int)}, r ∈ l → r.length ≤ l.flatten.length
 | [], h => by cases h
 | s :: l, h => by
  rw [List.flatten_cons, List.length_append]
  rcases List.mem_cons.1 h with rfl | h
  ·omega
  ·have := row_le_all h
   omega
theorem rw_all_len {w : World} {b : Nat} : ∀ (pre : List (RwRow w b)), (pre.map rwRow).flatten.length ≤ pre.length * b
 | [] => by simp
 | x :: pre => by
  have h := rw_all_len pre
  have hx : (rwRow x).length ≤ b := x.2.1
  rw [List.map_cons, List.flatten_cons, List.length_append, List.length_cons, Nat.succ_mul]
  omega
theorem rwEl_ex {w : World} {A : Option Addr} {l : List (List Int)} (hC : Kd.C (Kd.slice 3 (Kd.int .i64)) w A l.length l) (k : Nat) : ∃ x : RwRow w l.flatten.length, k < l.length → BackAt w A l.length k (rwEnc x) ∧ l.reverse[k]? = some (rwRow x) := by
 by_cases hk : k < l.length
 ·have h1 : ((l.length - 1 - k : Nat) : Int) < (l.length : Int) := by omega
  obtain ⟨ad, A0, c0, e, hx, hl, hi⟩ := at_L2 hC ((l.length - 1 - k : Nat) : Int) (by omega) h1
  have er : rd_L2 l ((l.length - 1 - k : Nat) : Int) = l[l.length - 1 - k]'(by omega) := by unfold rd_L2; rw [Int.toNat_natCast, List.getD_eq_getElem?_getD, List.getElem?_eq_getElem (by omega)]; rfl
  rw [Int.toNat_natCast] at hx
  refine ⟨⟨(l.length - 1 - k, A0, c0, rd_L2 l ((l.length - 1 - k : Nat) : Int)), by rw [er]; exact row_le_all (List.getElem_mem _), hl, hi⟩, fun _ => ⟨⟨_, _, _, ad, rfl, e, hx⟩, ?_⟩⟩
  show _ = some (rd_L2 l _)
  rw [er, List.getElem?_reverse hk, List.getElem?_eq_getElem (by omega)]
 ·exact ⟨⟨(0, none, 0, []), Nat.zero_le _, Nat.le_refl _, Kd.C_nil _ _⟩, fun h => absurd h hk⟩
theorem rw_all {w : World} {b : Nat} (l : List (List Int)) (el : Nat → RwRow w b) (hel : ∀ k, k < l.length → l.reverse[k]? = some (rwRow (el k))) : ((backToR el l.length).map rwRow) = l.reverse := by
 apply List.ext_getElem?
 intro k
 by_cases hk : k < l.length
 ·rw [hel k hk]
  simp [backToR, hk]
 ·rw [List.getElem?_eq_none (by simp [backToR]; omega), List.getElem?_eq_none (by simp; omega)]
theorem run_append_ints {W : World} (base ty : Nat) (v : Value) (xs ys : List Int) (A : Option Addr) (m c : Nat) (ok : Nat → Prop) (hfresh : ∀ k, W.heap.size ≤ k → ok k) (HO : Kd.R (Kd.int .i64) 3 W base ok v xs) (HR : Kd.C (Kd.int .i64) W A m ys) (hbase : base ≤ W.heap.size) (hl : (xs.length + m) * 8 ≤ 140737488355328) :
  ∃ v1 w1, (Builtin.append_ #[24, 24] ty #[v, .slice A m c]).run Tryz.prog W = .ok v1 w1 ∧ Kd.R (Kd.int .i64) 3 w1 base ok v1 (xs ++ ys) ∧ Below base W w1 ∧ W.grownBy w1 v.ownBlock ∧ (v1.ownBlock = v.ownBlock ∨ ∃ b, v1.ownBlock = some b ∧ W.heap.size ≤ b) := by
 have h := Kd.R_append_row (P := Tryz.prog) (ops := #[]) (rest := []) (o := { dst := some 2, op := .call { callee := .builtin .append, args := #[.tmp 0, .tmp 1], argTypes := #[24, 24] }, type := ty, pos := "", after := #[], guard := none }) (a := { tmps := #[v, .slice A m c, undef], defers := [] })
  (Q := fun e a w1 => e = .normal ∧ ∃ v1, a.tmps[2]? = some v1 ∧ Kd.R (Kd.int .i64) 3 w1 base ok v1 (xs ++ ys) ∧ Below base W w1 ∧ W.grownBy w1 v.ownBlock ∧ (v1.ownBlock = v.ownBlock ∨ ∃ b, v1.ownBlock = some b ∧ W.heap.size ≤ b)) (w0 := W) (fun n => Value.int .i64 n) 0 base rfl (.tmp 0) (.tmp 1) 24 3 (.int .i64 0) 8 rfl Tryz.underlying24 info3 rfl (by decide) v xs ys A m c ok rfl rfl hfresh HO HR (Below.refl _ _) hbase hl
  (fun v1 w1 h1 h2 h3 h4 => ⟨rfl, v1, rfl, h1, h2, h3, h4⟩)
 cases hr : (Builtin.append_ #[24, 24] ty #[v, .slice A m c]).run Tryz.prog W with
 | ok v1 w1 =>
  simp [wpList, Region.wanted, Oper.wp, execOp, resolve, invoke, builtin, hr, Result.andThen, Oper.upon, Act.put, Act.eval, LetsOut] at h
  exact ⟨_, _, rfl, h⟩
 | halt x w1 =>
  cases x <;> simp [wpList, Region.wanted, Oper.wp, execOp, resolve, invoke, builtin, hr, Result.andThen, Oper.upon, Act.put, Act.eval, LetsOut] at h
theorem wpListIn_append_run {F : Fence} {n : Nat} {P : Program} {W : World} {ops : Array Oper} {rest : List Oper} {o : Oper} {a : Act} {Q : Exit → Act → World → Prop}
  (hg : o.guard = none) (s x : Operand) (t : TypeId) (hop : o.op = Op.call { callee := Callee.builtin Builtin.append, args := #[s, x], argTypes := #[t, t] }) {v u v1 : Value} {w1 : World} (hs : a.eval s = v) (hx : a.eval x = u)
  (hrun : (Builtin.append_ #[t, t] o.type #[v, u]).run P W = .ok v1 w1) (hK : wpListIn F n P ops Q rest (a.put o.dst v1) w1) : wpListIn F n P ops Q (o :: rest) a W := by
 refine wpListIn_plain hg fun K hK' => ?_
 unfold Oper.wpIn
 refine ⟨?_, ?_⟩
 ·simp [Oper.about, hop, resolve, Target.leads, Sem.run_pure]
 ·rw [Oper.semAt_plain F _ _ (by rw [hop]; intro c hc'; cases hc')]
  simp [execOp, hop, resolve, invoke, builtin, hs, hx, hrun, Result.andThen]
  exact hK' _ _ hK
theorem R_keptOn {α : Type} {d : Kd α} {e base : Nat} {ok : Nat → Prop} {w w' : World} {v : Value} {xs : List α} {row : Option Nat} (h : d.R e w base ok v xs) (hg : w.grownBy w' row) (hr : ∀ r, row = some r → ∃ o : Obj, w.heap[r]? = some o ∧ o.isCells = false) : d.R e w' base ok v xs :=
 Kd.R_mono (Kd.R_grown (Kd.R_bound h) hg (fun k hk e1 => by
  obtain ⟨o, ho, hc⟩ := hr k e1.symm
  obtain ⟨_, _, _, q, _, cells, hcell⟩ := hk
  rw [hcell] at ho; cases ho; cases hc)) (fun k hk => hk.1)
theorem blk_keptOnR {W W' : World} {row : Option Nat} {b t : Nat} {cs : Array Value} (h : W.heap[b]? = some (.cells cs t (0, 0))) (hg : W.grownBy W' row) (hr : ∀ r, row = some r → ∃ o : Obj, W.heap[r]? = some o ∧ o.isCells = false) : W'.heap[b]? = some (.cells cs t (0, 0)) :=
 (grownBy_keeps_cells hg hr h rfl).trans h
set_option maxHeartbeats 4000000 in
set_option maxRecDepth 100000 in
theorem readingWord_in (k : Nat) (A0_0 : Option Addr) (c0_0 : Nat) (l0_0 : List Int) (A0_1 : Option Addr) (c0_1 : Nat) (l0_1 : List (List Int)) (w : World) (hr0_0 : Kd.C (Kd.int .i64) w A0_0 l0_0.length l0_0) (hc0_0 : l0_0.length ≤ c0_0) (hr0_1 : Kd.C (Kd.slice 3 (Kd.int .i64)) w A0_1 l0_1.length l0_1) (hc0_1 : l0_1.length ≤ c0_1) (hw : impl_IsTableau.f k l0_0 l0_1 = some true) (hbd : l0_1.length * l0_1.flatten.length < 17592186044416) :
  CallsIn Fence.wide 3 Tryz.prog 17 #[.agg #[.slice A0_0 l0_0.length c0_0, .slice A0_1 l0_1.length c0_1]] w fun e w' => ∃ v0_ : Value, e = .returned v0_ ∧ Kd.R (Kd.int .i64) 3 w' w.heap.size (fun _ => True) v0_ (readAll l0_1) ∧ Below w.heap.size w w' := by
 obtain ⟨el, hel⟩ := Classical.axiomOfChoice (rwEl_ex hr0_1)
 have HEL := Aside0.mk hel
 have HR0 := Aside0.mk hr0_0
 have HC0 := Aside0.mk hc0_0
 have HR1 := Aside0.mk hr0_1
 have HC1 := Aside0.mk hc0_1
 have HW := Aside0.mk hw
 have HBD := Aside0.mk hbd
 clear hr0_0 hc0_0 hr0_1 hc0_1 hw hbd hel
 refine callsIn_of_wp_marks Tryz.func17 rfl trivial ?_ rfl
 simp only [Tryz.ntmps17, List.size_toArray, List.length_cons, List.length_nil, Nat.reduceAdd, Nat.reduceSub, Array.replicate_succ, Array.replicate_zero, List.push_toArray, List.append_toArray, List.nil_append, List.cons_append]
 gi_wp2_with (first
  | (gi_at_call 44; refine (callsIn_wide.2 (impl_IsTableau.calls k A0_0 c0_0 l0_0 A0_1 c0_1 l0_1 true _ (Kd.C_alloc HR0.out _) HC0.out (Kd.C_alloc HR1.out _) HC1.out HW.out)).mono ?_; rintro e w6 ⟨rfl, hd⟩; have D6 := Aside0.mk hd; have hb6 : w6.heap[w.heap.size]? = some (.cells #[.slice A0_0 l0_0.length c0_0, .slice A0_1 l0_1.length c0_1] 29 (0, 0)) := (hd.block _ (by rw [World.size_alloc]; omega)).trans (blk_new w _); have hc6 : ((w6.alloc (.cells #[] 3 (0, 0))).alloc (.cells #[.slice (some ⟨w6.heap.size, 0, none⟩) 0 0] 24 (0, 0))).cell? ⟨w.heap.size, 1, none⟩ = some (.slice A0_1 l0_1.length c0_1) := by { have hlt := blk_lt hb6; exact (blk_cell ((Below.heap_alloc _ _ _ (by rw [World.size_alloc]; omega)).trans ((Below.heap_alloc _ _ _ hlt).trans hb6)) 1).trans rfl }; clear hd hb6)
  | (gi_at_call 45; refine (backr_in Fence.wide 2 trivial rfl _ _ _ _).mono ?_; rintro e w7 ⟨rfl, rfl⟩)
  | (refine ⟨trivial, ?_⟩; gi_at_call 44; refine (callsIn_wide.2 (impl_IsTableau.calls k A0_0 c0_0 l0_0 A0_1 c0_1 l0_1 true _ (Kd.C_alloc HR0.out _) HC0.out (Kd.C_alloc HR1.out _) HC1.out HW.out)).mono ?_; rintro e w6 ⟨rfl, hd⟩; have D6 := Aside0.mk hd; have hb6 : w6.heap[w.heap.size]? = some (.cells #[.slice A0_0 l0_0.length c0_0, .slice A0_1 l0_1.length c0_1] 29 (0, 0)) := (hd.block _ (by rw [World.size_alloc]; omega)).trans (blk_new w _); have hc6 : ((w6.alloc (.cells #[] 3 (0, 0))).alloc (.cells #[.slice (some ⟨w6.heap.size, 0, none⟩) 0 0] 24 (0, 0))).cell? ⟨w.heap.size, 1, none⟩ = some (.slice A0_1 l0_1.length c0_1) := by { have hlt := blk_lt hb6; exact (blk_cell ((Below.heap_alloc _ _ _ (by rw [World.size_alloc]; omega)).trans ((Below.heap_alloc _ _ _ hlt).trans hb6)) 1).trans rfl }; clear hd hb6)
  | (refine ⟨trivial, ?_⟩; gi_at_call 45; refine (backr_in Fence.wide 2 trivial rfl _ _ _ _).mono ?_; rintro e w7 ⟨rfl, rfl⟩))
 obtain ⟨N, hN⟩ : ∃ N, N = w.heap.size := ⟨_, rfl⟩
 obtain ⟨M, hM⟩ : ∃ M, M = w6.heap.size := ⟨_, rfl⟩
 have hD6 := D6.out
 have hNM : N < M := by have := hD6.size; rw [World.size_alloc] at this; omega
 have b6 : Below N w w6 := by rw [hN]; exact ((Below.refl _ w).alloc (Nat.le_refl _) _).trans (hD6.mono (by rw [World.size_alloc]; omega))
 rw [← hN] at hc6 ⊢
 rw [← hM] at hc6 ⊢
 obtain ⟨WA, hWA⟩ : ∃ WA, WA = w6.alloc (.cells #[] 3 (0, 0)) := ⟨_, rfl⟩
 rw [← hWA]
 obtain ⟨WB, hWB⟩ : ∃ WB, WB = WA.alloc (.cells #[.slice (some ⟨M, 0, none⟩) 0 0] 24 (0, 0)) := ⟨_, rfl⟩
 rw [← hWB]
 obtain ⟨W0, hW0⟩ : ∃ W0, W0 = WB.alloc (.cells #[.slice A0_1 l0_1.length c0_1] 27 (0, 0)) := ⟨_, rfl⟩
 rw [← hW0]
 have sA : WA.heap.size = M + 1 := by rw [hWA, World.size_alloc, hM]
 have sB : WB.heap.size = M + 2 := by rw [hWB, World.size_alloc, sA]
 have s0 : W0.heap.size = M + 3 := by rw [hW0, World.size_alloc, sB]
 have hmA : WA.heap[M]? = some (.cells #[] 3 (0, 0)) := by rw [hWA, hM]; exact World.alloc_heap_new w6 _
 have h3B : WB.heap[M + 1]? = some (.cells #[.slice (some ⟨M, 0, none⟩) 0 0] 24 (0, 0)) := by rw [hWB, ← sA]; exact World.alloc_heap_new WA _
 have hs0 : W0.heap[M + 2]? = some (.cells #[.slice A0_1 l0_1.length c0_1] 27 (0, 0)) := by rw [hW0, ← sB]; exact World.alloc_heap_new WB _
 have h30 : W0.heap[M + 1]? = some (.cells #[.slice (some ⟨M, 0, none⟩) 0 0] 24 (0, 0)) := by rw [hW0]; exact (Below.heap_alloc _ _ _ (by omega)).trans h3B
 have hm0 : W0.heap[M]? = some (.cells #[] 3 (0, 0)) := by rw [hW0, hWB]; exact (Below.heap_alloc _ _ _ (by rw [← hWB]; omega)).trans ((Below.heap_alloc _ _ _ (by omega)).trans hmA)
 have hB0 : Below N w W0 := by rw [hW0, hWB, hWA]; exact ((b6.alloc (by omega) _).alloc (by rw [← hWA]; omega) _).alloc (by rw [← hWA, ← hWB]; omega) _
 have hR0 : Kd.R (Kd.int .i64) 3 W0 N (fun k => k ≠ M + 1 ∧ k ≠ M + 2) (.slice (some ⟨M, 0, none⟩) 0 0) [] :=
  Kd.R_of_own (enc := fun n : Int => Value.int .i64 n) ⟨rfl, .inr ⟨M, 0, #[], rfl, by omega, hm0, Nat.le_refl _, by decide, rfl, rfl⟩⟩ (fun k hk => by
   have e : M = k := by simpa [Value.ownBlock] using hk
   omega)
 refine wpIn_rangeFunc_ownF rfl (by decide) (gf := 63) (lb := #[.pointer (some ⟨M + 2, 0, none⟩)]) rfl trivial (enters_of Tryz.func63 (by kernel_rfl) rfl)
  (backr_stops (fun x : RwRow w l0_1.flatten.length => rwEnc x) el Fence.wide 2 trivial rfl (by decide) (M + 2) N A0_1 l0_1.length c0_1 w W0 hN HR1.out.2.1 (fun k hk => (HEL.out k hk).1) hB0 (by omega) hs0)
  backKeeps_tR (backKeeps_bR (by omega) (by omega)) (Below.refl _ _) (fun _ => rfl)
  (fun pre W => (∃ v, Kd.R (Kd.int .i64) 3 W N (fun k => k ≠ M + 1 ∧ k ≠ M + 2) v (pre.map rwRow).flatten ∧ W.heap[M + 1]? = some (.cells #[v] 24 (0, 0)) ∧ M + 3 ≤ W.heap.size) ∧ Below N w W)
  (fun c pre W => False)
  (OwnFrom.and (Own.from (fun s A B row hs hg hr => by
   obtain ⟨v, h1, h2, h3⟩ := hs
   exact ⟨v, R_keptOn h1 hg hr, blk_keptOnR h2 hg hr, Nat.le_trans h3 hg.size⟩) _) (ownFrom_below (by omega) (by omega)))
  (fun c => Own.from (fun s A B row hs hg hr => hs) _)
  ⟨⟨_, hR0, h30, by omega⟩, hB0⟩
  (fun x => { tmps := #[.agg #[.slice A0_0 l0_0.length c0_0, .slice A0_1 l0_1.length c0_1], .pointer (some ⟨N, 0, none⟩), .slice none 0 0, .pointer (some ⟨M + 1, 0, none⟩), undef, .slice x.1.2.1 x.1.2.2.2.length x.1.2.2.1, .agg #[.slice A0_0 l0_0.length c0_0, .slice A0_1 l0_1.length c0_1], .bool true, .bool false, .slice (some ⟨M, 0, none⟩) 0 0, .pointer (some ⟨N, 1, none⟩), .slice A0_1 l0_1.length c0_1, .func (.func 63) #[] #[.pointer (some ⟨M + 1 + 1, 0, none⟩)], .int .i64 (x.1.1 : Int), .slice x.1.2.1 x.1.2.2.2.length x.1.2.2.1, undef, undef, undef, undef], defers := [] }) ?assign ?body ?done ?stop
 case assign =>
  intro l x W K hK
  clear hN hM
  simp only [rwEnc]
  gi_wp2
  exact hK
 case body =>
  rintro l pre ⟨⟨i, Ar, cr, row⟩, hrb, hrc, hrC⟩ W ⟨⟨v, hR, hbx, hsz⟩, hB⟩ hpre
  simp only at hrb hrc hrC
  have hlen : (pre.map rwRow).flatten.length + row.length ≤ l0_1.length * l0_1.flatten.length := by
   have h1 := rw_all_len pre
   have h2 := Nat.mul_le_mul_right l0_1.flatten.length (show pre.length + 1 ≤ l0_1.length from hpre)
   rw [Nat.succ_mul] at h2
   omega
  generalize hxs : (pre.map rwRow).flatten = xs at hR hlen
  obtain ⟨Av, cv, rfl⟩ := Kd.R_slice hR
  have HXS := Aside0.mk hxs
  clear hxs
  have hCW : Kd.C (Kd.int .i64) W Ar row.length row := Kd.C_below hrC (by rw [← hN]; exact hB)
  have hbd := HBD.out
  obtain ⟨v1, w1, hrun, h1, h2, h3, h4⟩ := run_append_ints N 24 _ _ row Ar row.length cr _ (fun k hk => ⟨by omega, by omega⟩) hR hCW (by omega) (by omega)
  obtain ⟨A1, c1, rfl⟩ := Kd.R_slice h1
  have hne : some (M + 1) ≠ (Value.slice Av xs.length cv).ownBlock := fun e => (hR.1 _ e.symm).1 rfl
  have hne2 : some (M + 2) ≠ (Value.slice Av xs.length cv).ownBlock := fun e => (hR.1 _ e.symm).2 rfl
  have hb1 : w1.heap[M + 1]? = some (.cells #[.slice Av xs.length cv] 24 (0, 0)) := (h3.block _ (blk_lt hbx) hne).trans hbx
  have hc3 : W.cell? ⟨M + 1, 0, none⟩ = some (.slice Av xs.length cv) := (blk_cell hbx 0).trans rfl
  have hc1 : w1.cell? ⟨M + 1, 0, none⟩ = some (.slice Av xs.length cv) := (blk_cell hb1 0).trans rfl
  have hf1 : w1.frozen? ⟨M + 1, 0, none⟩ = false := blk_frozen hb1 0
  have hKO : KeepsOthers W w1 := KeepsOthers.of_grownBy h3 (fun j o ej hj => by
   obtain ⟨cells, hcell⟩ := Kd.R_typed hR j ej
   rw [hcell] at hj
   cases hj
   rfl)
  have HK := Aside0.mk hKO
  have HX := Aside0.mk (And.intro h1 (And.intro h2 (And.intro h3 (And.intro hb1 (And.intro hR (And.intro hB (And.intro hsz hne2)))))))
  clear hKO h1 h2 h3 h4 hb1 hR hB hsz hne hne2 hlen hbd hCW hbx
  have HNM := Aside0.mk hNM
  clear hN hM hD6 hNM b6 hc6 hWA hWB hW0 sA sB s0 hmA h3B hs0 h30 hm0 hB0 hR0
  gi_wp2_with (gi_at_builtin; refine wpListIn_append_run (by rfl) (.tmp 15) (.tmp 16) _ (by rfl) (by rfl) (by rfl) hrun ?_)
  obtain ⟨h1, h2, h3, hb1, hR, hB, hsz, hne2⟩ := HX.out
  rw [← List.length_append]
  have hNM := HNM.out
  have e : ((pre ++ [(⟨(i, Ar, cr, row), hrb, hrc, hrC⟩ : RwRow w l0_1.flatten.length)]).map rwRow).flatten = xs ++ row := by rw [List.map_append, List.flatten_append, HXS.out]; simp [rwRow]
  refine ⟨HK.out.trans (KeepsOthers.setCell _ _ _), ⟨h2.setCell (p := ⟨M + 1, 0, none⟩) (show N ≤ M + 1 by omega) _, fun hlt => (Below.heap_setCell _ _ _ _ (show M + 2 ≠ M + 1 by omega)).trans (h3.block _ hlt hne2), Nat.le_trans h3.size (by simp [World.setCell])⟩, ⟨_, ?_, blk_put hb1 0 _ rfl, Nat.le_trans hsz (Nat.le_trans h3.size (by simp [World.setCell]))⟩, (hB.trans h2).setCell (p := ⟨M + 1, 0, none⟩) (show N ≤ M + 1 by omega) _⟩
  rw [e]
  exact Kd.R_far h1 (fun k hk => hk.1) _
 case done =>
  rintro D ys W hD hys ⟨⟨v, hR, hbx, hsz⟩, hB⟩ hK
  have hall : (ys.map rwRow).flatten = readAll l0_1 := by rw [hys, rw_all l0_1 el (fun k hk => (HEL.out k hk).2)]; rfl
  rw [hall] at hR
  obtain ⟨Av, cv, rfl⟩ := Kd.R_slice hR
  have hc3 : W.cell? ⟨M + 1, 0, none⟩ = some (.slice Av (readAll l0_1).length cv) := (blk_cell hbx 0).trans rfl
  have HN := Aside0.mk hN
  have HX := Aside0.mk (And.intro hR (And.intro hB (And.intro hD (And.intro s0 hNM))))
  clear hN hM hD6 hNM b6 hc6 hWA hWB hW0 sA sB s0 hmA h3B hs0 h30 hm0 hB0 hR0 hR hB hD hall hys hbx hsz
  gi_wp2
  obtain ⟨hR, hB, hD, s0, hNM⟩ := HX.out
  refine ⟨by simp, .inl ⟨_, _, rfl, run_takeDeferred hK, ?_⟩⟩
  refine ⟨.slice Av (readAll l0_1).length cv, ?_, _, rfl, ?_, ?_⟩
  ·simp [results, Tryz.f17, go_sem]
  ·rw [← HN.out]
   exact Kd.R_mono (R_keptOn hR (grownBy_putObj' _ D (.deferred none)) (fun r e => by cases e; exact ⟨_, hK, rfl⟩)) (fun _ _ => trivial)
  ·rw [← HN.out]
   exact hB.grown (grownBy_putObj' _ D (.deferred none)) (Nat.le_trans (show N ≤ M + 3 by omega) (by have := (Array.getElem?_eq_some_iff.1 hK).1; omega)) (fun k e => by cases e; omega)
 case stop =>
  rintro D c pre W hD hpre hF hK
  exact hF.elim
set_option maxHeartbeats 4000000 in
set_option maxRecDepth 100000 in
theorem readingWord_not (k : Nat) (A0_0 : Option Addr) (c0_0 : Nat) (l0_0 : List Int) (A0_1 : Option Addr) (c0_1 : Nat) (l0_1 : List (List Int)) (w : World) (hr0_0 : Kd.C (Kd.int .i64) w A0_0 l0_0.length l0_0) (hc0_0 : l0_0.length ≤ c0_0) (hr0_1 : Kd.C (Kd.slice 3 (Kd.int .i64)) w A0_1 l0_1.length l0_1) (hc0_1 : l0_1.length ≤ c0_1) (hw : impl_IsTableau.f k l0_0 l0_1 = some false) :
  CallsIn Fence.wide 3 Tryz.prog 17 #[.agg #[.slice A0_0 l0_0.length c0_0, .slice A0_1 l0_1.length c0_1]] w fun e w' => ∃ v0_ : Value, e = .returned v0_ ∧ Kd.R (Kd.int .i64) 3 w' w.heap.size (fun _ => True) v0_ [] ∧ Below w.heap.size w w' := by
 have HR0 := Aside0.mk hr0_0
 have HC0 := Aside0.mk hc0_0
 have HR1 := Aside0.mk hr0_1
 have HC1 := Aside0.mk hc0_1
 have HW := Aside0.mk hw
 clear hr0_0 hc0_0 hr0_1 hc0_1 hw
 refine callsIn_of_wp_marks Tryz.func17 rfl trivial ?_ rfl
 simp only [Tryz.ntmps17, List.size_toArray, List.length_cons, List.length_nil, Nat.reduceAdd, Nat.reduceSub, Array.replicate_succ, Array.replicate_zero, List.push_toArray, List.append_toArray, List.nil_append, List.cons_append]
 gi_wp2_with (first
  | (gi_at_call 44; refine (callsIn_wide.2 (impl_IsTableau.calls k A0_0 c0_0 l0_0 A0_1 c0_1 l0_1 false _ (Kd.C_alloc HR0.out _) HC0.out (Kd.C_alloc HR1.out _) HC1.out HW.out)).mono ?_; rintro e w6 ⟨rfl, hd⟩; have D6 := Aside0.mk hd; clear hd)
  | (refine ⟨trivial, ?_⟩; gi_at_call 44; refine (callsIn_wide.2 (impl_IsTableau.calls k A0_0 c0_0 l0_0 A0_1 c0_1 l0_1 false _ (Kd.C_alloc HR0.out _) HC0.out (Kd.C_alloc HR1.out _) HC1.out HW.out)).mono ?_; rintro e w6 ⟨rfl, hd⟩; have D6 := Aside0.mk hd; clear hd))
 refine ⟨.slice none 0 0, ?_, _, rfl, Kd.R_nil _ _ _ _ _, ((Below.refl _ w).alloc (Nat.le_refl _) _).trans (D6.out.mono (by rw [World.size_alloc]; omega))⟩
 simp [results, Tryz.f17, go_sem]
theorem impl_ReadingWord.calls (k : Nat) (A0_0 : Option Addr) (c0_0 : Nat) (l0_0 : List Int) (A0_1 : Option Addr) (c0_1 : Nat) (l0_1 : List (List Int)) (r : List Int) (w : World) (hr0_0 : Kd.C (Kd.int .i64) w A0_0 l0_0.length l0_0) (hc0_0 : l0_0.length ≤ c0_0) (hr0_1 : Kd.C (Kd.slice 3 (Kd.int .i64)) w A0_1 l0_1.length l0_1) (hc0_1 : l0_1.length ≤ c0_1) (h : impl_ReadingWord.f k l0_0 l0_1 = some r) : Calls Tryz.prog 17 #[.agg #[.slice A0_0 l0_0.length c0_0, .slice A0_1 l0_1.length c0_1]] w fun e w' => ∃ v0_ : Value, e = .returned (v0_) ∧ Kd.R (Kd.int .i64) 3 w' w.heap.size (fun _ => True) v0_ r ∧ Below w.heap.size w w' := by
 unfold impl_ReadingWord.f at h
 cases hw : impl_IsTableau.f k l0_0 l0_1 with
 | none => rw [hw] at h; cases h
 | some b =>
  rw [hw] at h
  simp only [Option.bind_some] at h
  cases b with
  | false =>
   cases h
   exact callsIn_wide.1 (readingWord_not k A0_0 c0_0 l0_0 A0_1 c0_1 l0_1 w hr0_0 hc0_0 hr0_1 hc0_1 hw)
  | true =>
   by_cases hbd : l0_1.length * l0_1.flatten.length < 17592186044416
   ·rw [if_pos rfl, if_pos hbd] at h
    cases h
    exact callsIn_wide.1 (readingWord_in k A0_0 c0_0 l0_0 A0_1 c0_1 l0_1 w hr0_0 hc0_0 hr0_1 hc0_1 hw hbd)
   ·rw [if_pos rfl, if_neg hbd] at h
    cases h
end

section
open Go.Shelf
attribute [local go_sem] Oper.semAt_some
def backTo {α : Type} (el : Nat → α) (k : Nat) : List α := (List.range k).map el
theorem backTo_succ {α : Type} (el : Nat → α) (k : Nat) : backTo el (k + 1) = backTo el k ++ [el k] := by simp [backTo, List.range_succ]
theorem backTo_length {α : Type} (el : Nat → α) (k : Nat) : (backTo el k).length = k := by simp [backTo]
def BackKeeps (n₀ Bs : Nat) (A B : World) : Prop := Below n₀ A B ∧ (Bs < A.heap.size → B.heap[Bs]? = A.heap[Bs]?) ∧ A.heap.size ≤ B.heap.size
theorem backKeeps_refl (n₀ Bs : Nat) (A : World) : BackKeeps n₀ Bs A A := ⟨Below.refl _ _, fun _ => rfl, Nat.le_refl _⟩
theorem backKeeps_t {n₀ Bs : Nat} {A B C : World} (h : BackKeeps n₀ Bs A B) (k : BackKeeps n₀ Bs B C) : BackKeeps n₀ Bs A C :=
  ⟨h.1.trans k.1, fun hl => (k.2.1 (Nat.lt_of_lt_of_le hl h.2.2)).trans (h.2.1 hl), Nat.le_trans h.2.2 k.2.2⟩
theorem backKeeps_b {n₀ Bs : Nat} {w : World} (hn : n₀ ≤ w.heap.size) (hb : Bs < w.heap.size) (W : World) (l : Nat) (o o' : Obj) (hl : w.heap.size ≤ l) (h : W.heap[l]? = some o) (_ : o.isCells = false) (_ : o.isWalk = false) : BackKeeps n₀ Bs W (W.putObj l o') := by
  have g := grownBy_putObj' W l o'
  refine ⟨(Below.refl n₀ W).grown g (by have := (Array.getElem?_eq_some_iff.1 h).1; omega) (fun k e => by cases e; omega), fun hlt => g.block Bs hlt (fun e => by cases e; omega), g.size⟩
set_option maxRecDepth 100000 in
set_option maxHeartbeats 2000000 in
theorem back1_in {α : Type} (encs : α → Array Value) (el : Nat → α) (F : Fence) (n : Nat) (hf : F.fn 67) (hro : F.round = none) (hn : 1 ≤ n) (l Bs n₀ : Nat) (A : Option Addr) (cap : Nat) (zs : List Int) (W0 : World) (hn0 : n₀ = W0.heap.size) (hC : Kd.C (Kd.int .i64) W0 A zs.length zs) (hel : ∀ k, k < zs.length → encs (el k) = #[.int .i64 ((zs.length - 1 - k : Nat) : Int), .int .i64 (rd zs ((zs.length - 1 - k : Nat) : Int))]) (J Jx : List α → World → Prop)
    (hY : ∀ pre x W, J pre W → pre.length < zs.length → YieldAt F (n - 1) Tryz.prog l (encs x) W fun e W' =>
      (e = .returned (.bool true) ∧ J (pre ++ [x]) W' ∧ BackKeeps n₀ Bs W W') ∨ (e = .returned (.bool false) ∧ Jx (pre ++ [x]) W'))
    (W : World) (hW : Below n₀ W0 W) (hBs : W.heap[Bs]? = some (.cells #[.slice A zs.length cap] 24 (0, 0))) (h0 : J [] W) :
    CallsIn F n Tryz.prog 67 #[.func (.yield l) #[] #[], .pointer (some ⟨Bs, 0, none⟩)] W fun e W' => (∃ v, e = .returned v) ∧
      ((∃ ys, ys = backTo el zs.length ∧ J ys W') ∨ (∃ pre, (∃ k, k ≤ zs.length ∧ pre = backTo el k) ∧ Jx pre W')) := by
  have hlen : zs.length ≤ 9223372036854775807 := hC.2.1
  have HC := Aside0.mk hC
  clear hC
  refine callsIn_of_wp Tryz.func67 rfl hf ?_ hro
  simp only [Tryz.ntmps67, List.size_toArray, List.length_cons, List.length_nil, Nat.reduceAdd, Nat.reduceSub, Array.replicate_succ, Array.replicate_zero, List.push_toArray, List.append_toArray, List.nil_append, List.cons_append]
  have hz0 : W.cell? ⟨Bs, 0, none⟩ = some (.slice A zs.length cap) := (blk_cell hBs 0).trans rfl
  gi_wp2
  gi_loopw [3] (fun i wr => ∃ k : Nat, k ≤ zs.length ∧ i = .int .i64 ((zs.length : Int) - 1 - (k : Int)) ∧ J (backTo el k) wr ∧ BackKeeps n₀ Bs W wr)
    (fun i _ => (intOf i + 1).toNat)
  case atStart => exact ⟨0, Nat.zero_le _, by go_num, h0, backKeeps_refl _ _ _⟩
  case round =>
    obtain ⟨k, hk, rfl, hJs, hnx⟩ := hrel
    have hzr : wr.cell? ⟨Bs, 0, none⟩ = some (.slice A zs.length cap) := (blk_cell ((hnx.2.1 (blk_lt hBs)).trans hBs) 0).trans rfl
    by_cases hlt : k < zs.length
    · have hge : (0 : Int) ≤ (zs.length : Int) - 1 - (k : Int) := by omega
      have hub : (zs.length : Int) - 1 - (k : Int) < (zs.length : Int) := by omega
      obtain ⟨ad, rfl, hx⟩ := Kd.at_int (Kd.C_below HC.out (by have := hW.trans hnx.1; rw [hn0] at this; exact this)) ((zs.length : Int) - 1 - (k : Int)) hge hub
      have ei : ((zs.length : Int) - 1 - (k : Int)) = ((zs.length - 1 - k : Nat) : Int) := by omega
      have hYk := hY _ (el k) wr hJs (by rw [backTo_length]; exact hlt)
      rw [hel k hlt] at hYk
      obtain ⟨fn, tmps, assign, body, hy, hR⟩ := hYk
      have et : ((zs.length : Int) - 1 - (k : Int)).toNat = zs.length - 1 - k := by omega
      rw [et] at hx
      gi_wp2
      refine hR.mono ?_
      rintro e W3 (⟨rfl, hJ3, hk3⟩ | ⟨rfl, hJx3⟩)
      · gi_wp2
        go_roundw
        case rel => exact ⟨k + 1, by omega, by go_num, by rw [backTo_succ]; exact hJ3, backKeeps_t hnx hk3⟩
        case measure => simp [intOf]; omega
      · gi_wp2
        refine bodyPost_ret (results_none rfl _ _ _) rfl ?_
        exact ⟨⟨_, rfl⟩, .inr ⟨_, ⟨k + 1, by omega, by rw [backTo_succ]⟩, hJx3⟩⟩
    · obtain rfl : k = zs.length := by omega
      have hneg : ¬ (0 : Int) ≤ (zs.length : Int) - 1 - (zs.length : Int) := by omega
      gi_wp2
      go_end0
      first | exact ⟨⟨_, rfl⟩, .inl ⟨_, rfl, hJs⟩⟩ | exact ⟨⟨_, rfl⟩, .inl hJs⟩
set_option maxHeartbeats 1000000 in
theorem back_in (F : Fence) (n : Nat) (hf : F.fn 47) (hro : F.round = none) (A : Option Addr) (len cap : Nat) (w : World) :
    CallsIn F n Tryz.prog 47 #[.slice A len cap] w fun e w' => e = .returned (.func (.func 67) #[] #[.pointer (some ⟨w.heap.size, 0, none⟩)]) ∧ w' = w.alloc (.cells #[.slice A len cap] 24 (0, 0)) := by
  refine callsIn_of_wp Tryz.func47 rfl hf ?_ hro
  simp only [Tryz.ntmps47, List.size_toArray, List.length_cons, List.length_nil, Nat.reduceAdd, Nat.reduceSub, Array.replicate_succ, Array.replicate_zero, List.push_toArray, List.append_toArray, List.nil_append, List.cons_append]
  gi_wp2
  go_ret
  exact ⟨rfl, rfl⟩
theorem back_stops {α : Type} (encs : α → Array Value) (el : Nat → α) (F : Fence) (n : Nat) (hf : F.fn 67) (hro : F.round = none) (hn : 1 ≤ n) (Bs n₀ : Nat) (A : Option Addr) (cap : Nat) (zs : List Int) (W0 w : World) (hn0 : n₀ = W0.heap.size) (hC : Kd.C (Kd.int .i64) W0 A zs.length zs)
    (hel : ∀ k, k < zs.length → encs (el k) = #[.int .i64 ((zs.length - 1 - k : Nat) : Int), .int .i64 (rd zs ((zs.length - 1 - k : Nat) : Int))]) (hW : Below n₀ W0 w) (hnw : n₀ ≤ w.heap.size)
    (hBs : w.heap[Bs]? = some (.cells #[.slice A zs.length cap] 24 (0, 0))) :
    SeqStopsK F n Tryz.prog 67 #[.pointer (some ⟨Bs, 0, none⟩)] encs (BackKeeps n₀ Bs) (fun ys => ys = backTo el zs.length)
      (fun pre => ∃ k, k ≤ zs.length ∧ pre = backTo el k) zs.length w := fun l J Jx W hWW _ _ hY h0 =>
  back1_in encs el F n hf hro hn l Bs n₀ A cap zs W0 hn0 hC hel J Jx hY W (hW.trans (hWW.mono hnw)) ((hWW.block Bs (blk_lt hBs)).trans hBs) h0
end

section
open Go.Shelf
attribute [local go_sem] Oper.semAt_some
theorem wpIn_of_quiet_nd {F : Fence} {n : Nat} {P : Program} {C : World → Prop} {o : Oper} {a : Act} {K : Act → Prop} {K' : Act → World → Prop} {Q' : Exit → Act → World → Prop} {w : World} (hnd : ∀ c, o.op ≠ .defer c) (hw : C w) (h : ∀ a w', C w' → K a → K' a w')
  (ha : o.askedIn F P a C) (hh : o.quietIn F n P a C K) : o.wpIn F n P a w K' Q' := by
 obtain ⟨v, h1, h2⟩ := hh
 have h3 := h1 w hw
 unfold Oper.quietAtIn at h3
 unfold Oper.wpIn
 refine ⟨ha w hw, ?_⟩
 rw [Oper.semAt_eq _ _ _ hnd]
 generalize (execOp a.eval o).run P w = r at *
 cases r with
 | ok x w' =>
  cases x <;> simp only [Oper.quietUponIn] at h3 <;> simp only [Oper.uponIn]
  case value u =>
   obtain ⟨e1, e2⟩ := h3
   rw [e1, e2]
   exact h _ _ hw h2
  case skip =>
   obtain ⟨e1, e2⟩ := h3
   rw [e1, ← e2]
   exact h _ _ hw h2
  case enter f args =>
   obtain ⟨e1, hd, hc⟩ := h3
   rw [e1]
   exact ⟨hd, hc.mono fun e w'' ⟨he, hw''⟩ => by subst he; exact h _ _ hw'' h2⟩
 | halt x w' => simp only [Oper.quietUponIn] at h3
theorem wpOpIn_of_qOpIn_nd {F : Fence} {n : Nat} {P : Program} {ops : Array Oper} {C : World → Prop} (hnd : ∀ o ∈ ops, ∀ c, o.op ≠ .defer c) {i : Nat} {a : Act} {K : Act → Prop} {K' : Act → World → Prop} {Q' : Exit → Act → World → Prop} {w : World} (hC : C w) (h : ∀ a w', C w' → K a → K' a w')
  (hh : qOpIn F n P ops C i K a) : wpOpIn F n P ops Q' i K' a w := by
 unfold qOpIn at hh
 unfold wpOpIn
 split
 ·rename_i ho; simp only [ho] at hh; exact h _ _ hC hh
 ·rename_i o ho
  simp only [ho] at hh
  obtain ⟨ha, hh⟩ := hh
  split
  ·rename_i hw; simp only [hw, if_true] at hh; exact wpIn_of_quiet_nd (hnd o (Array.mem_of_getElem? ho)) hC h ha hh
  ·rename_i hw; simp only [hw] at hh; exact ⟨ha w hC, h _ _ hC hh⟩
theorem wpAnyIn_of_quiet_nd {F : Fence} {n : Nat} {P : Program} {ops : Array Oper} {md : Region.Mode} {C : World → Prop} (hnd : ∀ o ∈ ops, ∀ c, o.op ≠ .defer c) {Q : Act → Prop} {Q' : Exit → Act → World → Prop} (hQ : ∀ a w, C w → Q a → Q' .normal a w) : ∀ (fuel : Nat) (listed : Array Bool) (a : Act) (w : World), C w →
  wpAnyQIn F n P md ops C Q fuel listed a → wpAnyIn F n P md ops Q' fuel listed a w
 | 0, _, _, _, hw, h => ⟨h.1, hQ _ _ hw h.2⟩
 | fuel + 1, _, _, _, hw, h => ⟨fun h0 => hQ _ _ hw (h.1 h0), fun i hi => wpOpIn_of_qOpIn_nd hnd hw (fun a' w' hw' => wpAnyIn_of_quiet_nd hnd hQ fuel _ a' w' hw') (h.2 i hi)⟩
theorem wpIn_region_quiet_nd {F : Fence} {n : Nat} {P : Program} {id : Nat} {Q : Exit → Act → World → Prop} {a : Act} {w : World} {l : List Oper} (hm : P.follows .mixedOrders = true) (hB : Region.lexB .any l.toArray = true) (hnd : ∀ o ∈ l, ∀ c, o.op ≠ .defer c)
  (h : wpQuietIn F n P l.toArray (fun w' => ∃ n, w' = w.drewN n) (fun a' => ∀ w', (∃ n, w' = w.drewN n) → Q .normal a' w') l a) : (Code.region id l.toArray true).wpIn F n P Q a w := by
 simp only [Region.lexB, Bool.and_eq_true] at hB
 refine wpIn_region_any hm (wpAnyIn_of_quiet_nd (Q := fun a' => ∀ w', (∃ n, w' = w.drewN n) → Q .normal a' w') (by simpa using hnd) (fun _ w' hw' h => h w' hw') _ _ _ _ ⟨1, rfl⟩ ?_)
 have := wpAnyQIn_lex (F := F) (n := n) (C := fun w' => ∃ n, w' = w.drewN n) (md := .any) hB.1 l 0 (Array.replicate l.toArray.size false) a (by simp) (by simpa using hB.2) h
 simpa using this
theorem below_drewN' {B : Nat} {a w : World} (h : Below B a w) (n : Nat) : Below B a (w.drewN n) := h.trans ⟨rfl, rfl, rfl, Nat.le_refl _, fun _ _ => rfl⟩
theorem kept_drewN {W W' : World} (h : KeepsOthers W W') (n : Nat) : KeepsOthers W (W'.drewN n) := ⟨h.size, h.same⟩
open BigFrame
def latStep (cs : List Int) (n : Int) : Option (List Int) := if 1 < n ∧ rd (cs.set n.toNat (wrap64 (rd cs n + 1))) (n - 1) < rd (cs.set n.toNat (wrap64 (rd cs n + 1))) n then none else some (cs.set n.toNat (wrap64 (rd cs n + 1)))
def latRun (cs : List Int) : List Int → Option (List Int)
 | [] => some cs
 | n :: l => (latStep cs n).bind fun c => latRun c l
theorem latRun_append (l : List Int) : ∀ (cs : List Int) (l' : List Int), latRun cs (l ++ l') = (latRun cs l).bind fun c => latRun c l' := by
 induction l with
 | nil => intro cs l'; rfl
 | cons n l ih =>
  intro cs l'
  simp only [List.cons_append, latRun]
  cases latStep cs n with
  | none => rfl
  | some c => simp only [Option.bind_some]; exact ih c l'
theorem latRun_snoc (l : List Int) (cs : List Int) (n : Int) : latRun cs (l ++ [n]) = (latRun cs l).bind fun c => latStep c n := by
 rw [latRun_append]
 congr 1
 funext c
 simp only [latRun]
 cases latStep c n <;> rfl
abbrev Let9 := { x : Nat × Int // 1 ≤ x.2 ∧ x.2 ≤ 9 }
def latEl (zs : List Int) (k : Nat) : Let9 := if h : 1 ≤ rd zs ((zs.length - 1 - k : Nat) : Int) ∧ rd zs ((zs.length - 1 - k : Nat) : Int) ≤ 9 then ⟨(zs.length - 1 - k, rd zs ((zs.length - 1 - k : Nat) : Int)), h⟩ else ⟨(0, 1), by decide⟩
theorem latEl_enc {zs : List Int} (h : ∀ z ∈ zs, 1 ≤ z ∧ z ≤ 9) (k : Nat) (hk : k < zs.length) : (latEl zs k).1 = (zs.length - 1 - k, rd zs ((zs.length - 1 - k : Nat) : Int)) := by
 unfold latEl
 have hlt : zs.length - 1 - k < zs.length := by omega
 have e : rd zs ((zs.length - 1 - k : Nat) : Int) = zs[zs.length - 1 - k] := by unfold rd; rw [Int.toNat_natCast, List.getD_eq_getElem?_getD, List.getElem?_eq_getElem hlt]; rfl
 rw [dif_pos (by rw [e]; exact h _ (List.getElem_mem hlt))]
theorem lat_came {zs : List Int} (h : ∀ z ∈ zs, 1 ≤ z ∧ z ≤ 9) : ∀ k, k ≤ zs.length → (backTo (latEl zs) k).map (fun x => x.1.2) = zs.reverse.take k
 | 0, _ => by simp [backTo]
 | k + 1, hk => by
  have hlt : zs.length - 1 - k < zs.length := by omega
  have e : rd zs ((zs.length - 1 - k : Nat) : Int) = zs[zs.length - 1 - k] := by unfold rd; rw [Int.toNat_natCast, List.getD_eq_getElem?_getD, List.getElem?_eq_getElem hlt]; rfl
  rw [backTo_succ, List.map_append, lat_came h k (by omega), List.take_succ_eq_append_getElem (by rw [List.length_reverse]; omega), List.getElem_reverse]
  simp only [List.map_cons, List.map_nil]
  rw [latEl_enc h k (by omega), e]
def cellsOf (cs : List Int) : Array Value := (cs.map fun n => Value.int .i64 n).toArray
theorem cellsOf_at (cs : List Int) (i : Nat) (h : i < cs.length) : (cellsOf cs)[i]? = some (.int .i64 (rd cs (i : Int))) := by
 have e : rd cs (i : Int) = cs[i] := by unfold rd; rw [Int.toNat_natCast, List.getD_eq_getElem?_getD, List.getElem?_eq_getElem h]; rfl
 rw [e]; simp [cellsOf, h]
theorem madeCells_zeros (n : Nat) : madeCells #[Value.int .i64 0] n = cellsOf (List.replicate n 0) := by
 apply Array.ext <;> simp [madeCells, cellsOf, Nat.mod_one]
theorem cellsOf_set (cs : List Int) (i : Nat) (n : Int) : (cellsOf cs).setIfInBounds i (.int .i64 n) = cellsOf (cs.set i n) := by
 simp [cellsOf, List.map_set]
theorem blk_keptOn {W W' : World} {row : Option Nat} {b t : Nat} {cs : Array Value} (h : W.heap[b]? = some (.cells cs t (0, 0))) (hg : W.grownBy W' row) (hr : ∀ r, row = some r → ∃ o : Obj, W.heap[r]? = some o ∧ o.isCells = false) : W'.heap[b]? = some (.cells cs t (0, 0)) :=
 (grownBy_keeps_cells hg hr h rfl).trans h
def lat0 : List Int := List.replicate 10 0
def impl_IsLattice.f (l0 : List Int) : Option (Bool) := (impl_IsWord.f l0).bind fun b => some (b && (latRun lat0 l0.reverse).isSome)
set_option maxHeartbeats 4000000 in
set_option maxRecDepth 100000 in
theorem isLattice_in (A0 : Option Addr) (c0 : Nat) (l0 : List Int) (w : World) (hr0 : Kd.C (Kd.int .i64) w A0 l0.length l0) (hc0 : l0.length ≤ c0) (hw : impl_IsWord.f l0 = some true) (h9 : ∀ z ∈ l0, 1 ≤ z ∧ z ≤ 9) :
  CallsIn Fence.wide 3 Tryz.prog 19 #[.slice A0 l0.length c0] w fun e w' => e = .returned (.bool (latRun lat0 l0.reverse).isSome) ∧ Below w.heap.size w w' := by
 have HR := Aside0.mk hr0
 have HC := Aside0.mk hc0
 have HW := Aside0.mk hw
 have H9 := Aside0.mk h9
 clear hr0 hc0 hw h9
 refine callsIn_of_wp_marks Tryz.func19 rfl trivial ?_ rfl
 simp only [Tryz.ntmps19, List.size_toArray, List.length_cons, List.length_nil, Nat.reduceAdd, Nat.reduceSub, Array.replicate_succ, Array.replicate_zero, List.push_toArray, List.append_toArray, List.nil_append, List.cons_append]
 have hmk : ∀ W : World, (Instr.makeSlice 24 (.int .i64 10) (.int .i64 10)).run Tryz.prog W = .ok (.slice (some ⟨W.heap.size, 0, none⟩) 10 10) (W.alloc (.cells (cellsOf lat0) 3 (0, 0))) := fun W => by
  have h := run_make_row' (P := Tryz.prog) 24 3 (.int .i64 0) 8 Tryz.underlying24 info3 rfl .i64 .i64 10 (by decide) (by decide) W
  have e : madeCells #[Value.int .i64 0] 10 = cellsOf lat0 := madeCells_zeros 10
  rw [e] at h
  exact h
 gi_wp2_with (first
  | (gi_at_call 21; refine (callsIn_wide.2 (impl_IsWord.calls A0 c0 l0 true (w.alloc (.cells #[.bool false] 4 (0, 0))) (Kd.C_alloc HR.out _) HC.out HW.out)).mono ?_; rintro e w6 ⟨rfl, hd⟩; have D6 := Aside0.mk hd; clear hd)
  | (refine ⟨trivial, ?_⟩; gi_at_call 21; refine (callsIn_wide.2 (impl_IsWord.calls A0 c0 l0 true (w.alloc (.cells #[.bool false] 4 (0, 0))) (Kd.C_alloc HR.out _) HC.out HW.out)).mono ?_; rintro e w6 ⟨rfl, hd⟩; have D6 := Aside0.mk hd; clear hd)
  | (refine ⟨trivial, ?_⟩; gi_at_call 47; refine (back_in Fence.wide 2 trivial rfl _ _ _ _).mono ?_; rintro e w7 ⟨rfl, rfl⟩))
 obtain ⟨N, hN⟩ : ∃ N, N = w.heap.size := ⟨_, rfl⟩
 have e6 : w6.heap = (w.alloc (.cells #[.bool false] 4 (0, 0))).heap := by obtain ⟨k, rfl⟩ := D6.out; rfl
 have s6 : w6.heap.size = N + 1 := by rw [e6, World.size_alloc, hN]
 have b6 : Below N w w6 := by
  have h1 := D6.out
  obtain ⟨k, rfl⟩ := h1
  rw [hN]
  exact ((Below.refl _ w).alloc (Nat.le_refl _) _).trans ⟨rfl, rfl, rfl, Nat.le_refl _, fun _ _ => rfl⟩
 have h62 : w6.heap[N]? = some (.cells #[.bool false] 4 (0, 0)) := by rw [e6, hN]; exact World.alloc_heap_new w _
 rw [← hN, s6]
 obtain ⟨WA, hWA⟩ : ∃ WA, WA = w6.alloc (.cells (cellsOf lat0) 3 (0, 0)) := ⟨_, rfl⟩
 rw [← hWA]
 obtain ⟨WB, hWB⟩ : ∃ WB, WB = WA.alloc (.cells #[.slice (some ⟨N + 1, 0, none⟩) 10 10] 24 (0, 0)) := ⟨_, rfl⟩
 rw [← hWB]
 obtain ⟨W0, hW0⟩ : ∃ W0, W0 = WB.alloc (.cells #[.slice A0 l0.length c0] 24 (0, 0)) := ⟨_, rfl⟩
 rw [← hW0]
 have sA : WA.heap.size = N + 2 := by rw [hWA, World.size_alloc, s6]
 have sB : WB.heap.size = N + 3 := by rw [hWB, World.size_alloc, sA]
 have s0 : W0.heap.size = N + 4 := by rw [hW0, World.size_alloc, sB]
 have hmA : WA.heap[N + 1]? = some (.cells (cellsOf lat0) 3 (0, 0)) := by rw [hWA, ← s6]; exact World.alloc_heap_new w6 _
 have h3B : WB.heap[N + 2]? = some (.cells #[.slice (some ⟨N + 1, 0, none⟩) 10 10] 24 (0, 0)) := by rw [hWB, ← sA]; exact World.alloc_heap_new WA _
 have hs0 : W0.heap[N + 3]? = some (.cells #[.slice A0 l0.length c0] 24 (0, 0)) := by rw [hW0, ← sB]; exact World.alloc_heap_new WB _
 have h30 : W0.heap[N + 2]? = some (.cells #[.slice (some ⟨N + 1, 0, none⟩) 10 10] 24 (0, 0)) := by rw [hW0]; exact (Below.heap_alloc _ _ _ (by omega)).trans h3B
 have hm0 : W0.heap[N + 1]? = some (.cells (cellsOf lat0) 3 (0, 0)) := by rw [hW0, hWB]; exact (Below.heap_alloc _ _ _ (by rw [← hWB]; omega)).trans ((Below.heap_alloc _ _ _ (by omega)).trans hmA)
 have h20 : W0.heap[N]? = some (.cells #[.bool false] 4 (0, 0)) := by rw [hW0, hWB, hWA]; exact (Below.heap_alloc _ _ _ (by rw [← hWA, ← hWB]; omega)).trans ((Below.heap_alloc _ _ _ (by rw [← hWA]; omega)).trans ((Below.heap_alloc _ _ _ (by omega)).trans h62))
 have hB0 : Below N w W0 := by rw [hW0, hWB, hWA]; exact ((b6.alloc (by omega) _).alloc (by rw [← hWA]; omega) _).alloc (by rw [← hWA, ← hWB]; omega) _
 refine wpIn_rangeFunc_ownF rfl (by decide) (gf := 67) (lb := #[.pointer (some ⟨N + 3, 0, none⟩)]) rfl trivial (enters_of Tryz.func67 (by kernel_rfl) rfl)
  (back_stops (fun x : Let9 => #[.int .i64 (x.1.1 : Int), .int .i64 x.1.2]) (latEl l0) Fence.wide 2 trivial rfl (by decide) (N + 3) N A0 c0 l0 w W0 hN HR.out (fun k hk => by simp only [latEl_enc H9.out k hk]) hB0 (by omega) hs0)
  backKeeps_t (backKeeps_b (by omega) (by omega)) (Below.refl _ _) (fun _ => rfl)
  (fun pre W => (∃ cs, latRun lat0 (pre.map fun x => x.1.2) = some cs ∧ cs.length = 10 ∧ W.heap[N + 1]? = some (.cells (cellsOf cs) 3 (0, 0)) ∧ W.heap[N + 2]? = some (.cells #[.slice (some ⟨N + 1, 0, none⟩) 10 10] 24 (0, 0)) ∧ W.heap[N]? = some (.cells #[.bool false] 4 (0, 0))) ∧ Below N w W)
  (fun c pre W => (c = .ret ∧ latRun lat0 (pre.map fun x => x.1.2) = none ∧ W.heap[N]? = some (.cells #[.bool false] 4 (0, 0))) ∧ Below N w W)
  (OwnFrom.and (Own.from (fun s A B row hs hg hr => by
   obtain ⟨cs, h1, h2, h3, h4, h5⟩ := hs
   exact ⟨cs, h1, h2, blk_keptOn h3 hg hr, blk_keptOn h4 hg hr, blk_keptOn h5 hg hr⟩) _) (ownFrom_below (by omega) (by omega)))
  (fun c => OwnFrom.and (Own.from (fun s A B row hs hg hr => ⟨hs.1, hs.2.1, blk_keptOn hs.2.2 hg hr⟩) _) (ownFrom_below (by omega) (by omega)))
  ⟨⟨lat0, rfl, rfl, hm0, h30, h20⟩, hB0⟩
  (fun x => { tmps := #[.slice A0 l0.length c0, undef, .pointer (some ⟨N, 0, none⟩), .pointer (some ⟨N + 1 + 1, 0, none⟩), undef, .int .i64 x.1.2, .slice A0 l0.length c0, .bool true, .bool false, .slice (some ⟨N + 1, 0, none⟩) 10 10, .slice A0 l0.length c0, .func (.func 67) #[] #[.pointer (some ⟨N + 1 + 1 + 1, 0, none⟩)], .int .i64 (x.1.1 : Int), .int .i64 x.1.2, undef, undef, undef, undef, undef, undef, undef, undef, undef, undef, undef, undef, undef, undef, undef, undef, undef, undef, undef, undef], defers := [] }) ?assign ?body ?done ?stop
 case assign =>
  intro l x W K hK
  clear hN
  gi_wp2
  exact hK
 case body =>
  rintro l pre ⟨⟨i, n⟩, hn1, hn9⟩ W ⟨⟨cs, hrun, hlen, hm, h3, h2⟩, hB⟩ _
  simp only at hn1 hn9
  clear hN s6 e6 hWA hWB hW0 sA sB s0 hmA h3B hs0 h30 hm0 h20 hB0 b6 h62 hmk
  have hc3 : W.cell? ⟨N + 1 + 1, 0, none⟩ = some (.slice (some ⟨N + 1, 0, none⟩) 10 10) := (blk_cell h3 0).trans rfl
  have hcn : W.cell? ⟨N + 1, n.toNat, none⟩ = some (.int .i64 (rd cs n)) := by
   have := (blk_cell hm n.toNat).trans (cellsOf_at cs n.toNat (by omega))
   rwa [Int.toNat_of_nonneg (by omega)] at this
  have hn0 : (0 : Int) ≤ n := by omega
  have hn10 : n < 10 := by omega
  have hfr : W.frozen? ⟨N + 1, n.toNat, none⟩ = false := blk_frozen hm n.toNat
  gi_wp2
  obtain ⟨W', hW'⟩ : ∃ W', W' = W.setCell ⟨N + 1, n.toNat, none⟩ (.int .i64 (wrap64 (rd cs n + 1))) := ⟨_, rfl⟩
  rw [← hW']
  obtain ⟨cs', hcs'⟩ : ∃ cs', cs' = cs.set n.toNat (wrap64 (rd cs n + 1)) := ⟨_, rfl⟩
  have hm' : W'.heap[N + 1]? = some (.cells (cellsOf cs') 3 (0, 0)) := by
   have h := blk_set hm n.toNat (.int .i64 (wrap64 (rd cs n + 1)))
   rw [cellsOf_set, ← hcs'] at h
   rw [hW']; exact h
  have ho' : ∀ k, k ≠ N + 1 → W'.heap[k]? = W.heap[k]? := fun k hk => by rw [hW']; exact Below.heap_setCell _ _ _ _ hk
  have hB' : Below N w W' := by rw [hW']; exact hB.setCell (p := ⟨N + 1, n.toNat, none⟩) (Nat.le_succ N) _
  have hK' : BackKeeps N (N + 3) W W' := by
   refine ⟨by rw [hW']; exact (Below.refl N W).setCell (p := ⟨N + 1, n.toNat, none⟩) (Nat.le_succ N) _, fun _ => ho' _ (by omega), by rw [hW']; simp [World.setCell]⟩
  have hO' : KeepsOthers W W' := by rw [hW']; exact KeepsOthers.setCell _ _ _
  have h3' := (ho' (N + 2) (by omega)).trans h3
  have h2' := (ho' N (by omega)).trans h2
  have hl' : cs'.length = 10 := by rw [hcs', List.length_set]; exact hlen
  have hrun' : latRun lat0 ((pre ++ [(⟨(i, n), hn1, hn9⟩ : Let9)]).map fun x : Let9 => x.1.2) = latStep cs n := by
   rw [List.map_append, List.map_cons, List.map_nil, latRun_snoc, hrun]; rfl
  clear hW' hcn hfr hc3 hm h3 h2 hB
  have hc3 : W'.cell? ⟨N + 1 + 1, 0, none⟩ = some (.slice (some ⟨N + 1, 0, none⟩) 10 10) := (blk_cell h3' 0).trans rfl
  have hcn : W'.cell? ⟨N + 1, n.toNat, none⟩ = some (.int .i64 (rd cs' n)) := by
   have := (blk_cell hm' n.toNat).trans (cellsOf_at cs' n.toNat (by omega))
   rwa [Int.toNat_of_nonneg (by omega)] at this
  have hcm : W'.cell? ⟨N + 1, n.toNat - 1, none⟩ = some (.int .i64 (rd cs' (n - 1))) := by
   have h := (blk_cell hm' (n.toNat - 1)).trans (cellsOf_at cs' (n.toNat - 1) (by omega))
   have e : ((n.toNat - 1 : Nat) : Int) = n - 1 := by omega
   rwa [e] at h
  have HCS := Aside0.mk hcs'
  have HRUN := Aside0.mk hrun'
  have HM := Aside0.mk hm'
  have HH3 := Aside0.mk h3'
  have HH2 := Aside0.mk h2'
  clear hcs' hrun' hm' h3'
  by_cases hg : 1 < n
  ·have hd : decide (1 < n) = true := by simpa using hg
   have hm0 : (0 : Int) ≤ n - 1 := by omega
   have hm10 : n - 1 < 10 := by omega
   have hwr : IntKind.i64.wrap (n - 1) = n - 1 := IntWalk.i64_in _ (by omega)
   refine wpIn_region_quiet_nd (by kernel_rfl) (by kernel_rfl) (by simp) ?_; (repeat (gi_big_quiet_step (fail))); refine wpQuietIn_nil ?_; intro _ hw'; obtain ⟨nq, hw''⟩ := hw'; subst hw''
   by_cases hbig : rd cs' (n - 1) < rd cs' n
   ·have hdb : decide (rd cs' (n - 1) < rd cs' n) = true := by simpa using hbig
    have h2n : W'.cell? ⟨N, 0, none⟩ = some (.bool false) := (blk_cell h2' 0).trans rfl
    have hfn : W'.frozen? ⟨N, 0, none⟩ = false := blk_frozen h2' 0
    gi_wp2
    refine ⟨(kept_drewN hO' nq).trans (KeepsOthers.setCell _ _ _), ⟨rfl, ?_, blk_put (show (W'.drewN nq).heap[N]? = some (.cells #[.bool false] 4 (0, 0)) from HH2.out) 0 (.bool false) rfl⟩, (below_drewN' hB' nq).setCell (p := ⟨N, 0, none⟩) (Nat.le_refl N) _⟩
    refine HRUN.out.trans ?_
    have e := HCS.out
    subst e
    exact if_pos ⟨hg, hbig⟩
   ·have hdb : decide (rd cs' (n - 1) < rd cs' n) = false := by simpa using hbig
    gi_wp2
    refine ⟨kept_drewN hO' nq, ⟨below_drewN' hK'.1 nq, hK'.2⟩, ⟨cs', ?_, hl', HM.out, HH3.out, HH2.out⟩, below_drewN' hB' nq⟩
    refine HRUN.out.trans ?_
    have e := HCS.out
    subst e
    exact if_neg (fun h => absurd h.2 (by omega))
  ·have hd : decide (1 < n) = false := by simpa using hg
   refine wpIn_region_quiet_nd (by kernel_rfl) (by kernel_rfl) (by simp) ?_; (repeat (gi_big_quiet_step (fail))); refine wpQuietIn_nil ?_; intro _ hw'; obtain ⟨nq, hw''⟩ := hw'; subst hw''
   gi_wp2
   refine ⟨kept_drewN hO' nq, ⟨below_drewN' hK'.1 nq, hK'.2⟩, ⟨cs', ?_, hl', HM.out, HH3.out, HH2.out⟩, below_drewN' hB' nq⟩
   refine HRUN.out.trans ?_
   have e := HCS.out
   subst e
   exact if_neg (fun h => absurd h.1 (by omega))
 case done =>
  rintro D ys W hD hys ⟨⟨cs, hrun, hlen, hm, h3, h2⟩, hB⟩ hK
  have hres : (latRun lat0 l0.reverse).isSome = true := by
   rw [hys, lat_came H9.out l0.length (Nat.le_refl _), List.take_of_length_le (by rw [List.length_reverse]; exact Nat.le_refl _)] at hrun
   rw [hrun]; rfl
  have HN := Aside0.mk hN
  have HRES := Aside0.mk hres
  have HD := Aside0.mk hD
  have HS0 := Aside0.mk s0
  clear hN hres hD s6 e6 hWA hWB hW0 sA sB s0 hmA h3B hs0 h30 hm0 h20 hB0 b6 h62 hmk hrun hm h3 hlen hys
  have h2n : W.cell? ⟨N, 0, none⟩ = some (.bool false) := (blk_cell h2 0).trans rfl
  have hfn : W.frozen? ⟨N, 0, none⟩ = false := blk_frozen h2 0
  gi_wp2
  have hK' := (KeepsOthers.setCell W ⟨N, 0, none⟩ (.bool true)).same D _ hK rfl
  refine ⟨by simp, .inl ⟨_, _, rfl, run_takeDeferred hK', ?_⟩⟩
  have hc5 : ((W.setCell ⟨N, 0, none⟩ (.bool true)).putObj D (.deferred none)).cell? ⟨N, 0, none⟩ = some (.bool true) :=
   (blk_cell (blk_keptOn (blk_put h2 0 (.bool true) rfl) (grownBy_putObj' _ D (.deferred none)) (fun r e => by cases e; exact ⟨_, hK', rfl⟩)) 0).trans rfl
  refine ⟨.bool true, ?_, by rw [HRES.out], ?_⟩
  ·simp [results, Tryz.f19, go_sem, hc5]
  ·rw [← HN.out]
   exact (hB.setCell (p := ⟨N, 0, none⟩) (Nat.le_refl N) _).trans (belowK_b (w := W0) (by have := HS0.out; omega) _ D _ _ HD.out hK' rfl rfl)
 case stop =>
  rintro D c pre W hD hpre ⟨⟨rfl, hin, h2⟩, hB⟩ hK
  have hres : (latRun lat0 l0.reverse).isSome = false := by
   obtain ⟨k, hk, rfl⟩ := hpre
   rw [lat_came H9.out k hk] at hin
   have e := latRun_append (l0.reverse.take k) lat0 (l0.reverse.drop k)
   rw [List.take_append_drop, hin] at e
   rw [e]; rfl
  have HN := Aside0.mk hN
  have HRES := Aside0.mk hres
  have HD := Aside0.mk hD
  have HS0 := Aside0.mk s0
  clear hN hres hD s6 e6 hWA hWB hW0 sA sB s0 hmA h3B hs0 h30 hm0 h20 hB0 b6 h62 hmk hin hpre
  gi_wp2
  refine ⟨by simp, .inl ⟨_, _, rfl, run_takeDeferred hK, ?_⟩⟩
  have hc5 : (W.putObj D (.deferred none)).cell? ⟨N, 0, none⟩ = some (.bool false) :=
   (blk_cell (blk_keptOn h2 (grownBy_putObj' _ D (.deferred none)) (fun r e => by cases e; exact ⟨_, hK, rfl⟩)) 0).trans rfl
  refine ⟨.bool false, ?_, by rw [HRES.out], ?_⟩
  ·simp [results, Tryz.f19, go_sem, hc5]
  ·rw [← HN.out]
   exact hB.trans (belowK_b (w := W0) (by have := HS0.out; omega) _ D _ _ HD.out hK rfl rfl)
set_option maxHeartbeats 4000000 in
set_option maxRecDepth 100000 in
theorem isLattice_not (A0 : Option Addr) (c0 : Nat) (l0 : List Int) (w : World) (hr0 : Kd.C (Kd.int .i64) w A0 l0.length l0) (hc0 : l0.length ≤ c0) (hw : impl_IsWord.f l0 = some false) :
  CallsIn Fence.wide 3 Tryz.prog 19 #[.slice A0 l0.length c0] w fun e w' => e = .returned (.bool false) ∧ Below w.heap.size w w' := by
 have HR := Aside0.mk hr0
 have HC := Aside0.mk hc0
 have HW := Aside0.mk hw
 clear hr0 hc0 hw
 refine callsIn_of_wp_marks Tryz.func19 rfl trivial ?_ rfl
 simp only [Tryz.ntmps19, List.size_toArray, List.length_cons, List.length_nil, Nat.reduceAdd, Nat.reduceSub, Array.replicate_succ, Array.replicate_zero, List.push_toArray, List.append_toArray, List.nil_append, List.cons_append]
 obtain ⟨N, hN⟩ : ∃ N, N = w.heap.size := ⟨_, rfl⟩
 have hb0 := blk_new w (.cells #[.bool false] 4 (0, 0))
 have hB1 : Below N w (w.alloc (.cells #[.bool false] 4 (0, 0))) := by rw [hN]; exact (Below.refl _ w).alloc (Nat.le_refl _) _
 rw [← hN] at hb0
 have HB1 := Aside0.mk hB1
 have HB0 := Aside0.mk hb0
 have HN := Aside0.mk hN
 clear hB1 hb0 hN
 gi_wp2_with (refine ⟨trivial, ?_⟩; gi_at_call 21; refine (callsIn_wide.2 (impl_IsWord.calls A0 c0 l0 false (w.alloc (.cells #[.bool false] 4 (0, 0))) (Kd.C_alloc HR.out _) HC.out HW.out)).mono ?_; rintro e w6 ⟨rfl, hd⟩; obtain ⟨q, hd⟩ := hd.out; subst hd; rw [← HN.out]; have hcN : ((w.alloc (.cells #[.bool false] 4 (0, 0))).drewN q).cell? ⟨N, 0, none⟩ = some (.bool false) := (blk_cell (blk_drewN HB0.out q) 0).trans rfl; have hfN : ((w.alloc (.cells #[.bool false] 4 (0, 0))).drewN q).frozen? ⟨N, 0, none⟩ = false := blk_frozen (blk_drewN HB0.out q) 0)
 have hc5 := (blk_cell (blk_put (blk_drewN HB0.out q) 0 (.bool false) rfl) 0).trans rfl
 refine ⟨.bool false, ?_, rfl, ?_⟩
 ·simp [results, Tryz.f19, go_sem, hc5]
 ·rw [← HN.out]
  exact (below_drewN' HB1.out q).setCell (p := ⟨N, 0, none⟩) (Nat.le_refl N) _
theorem impl_IsLattice.calls (A0 : Option Addr) (c0 : Nat) (l0 : List Int) (r : Bool) (w : World) (hr0 : Kd.C (Kd.int .i64) w A0 l0.length l0) (hc0 : l0.length ≤ c0) (h : impl_IsLattice.f l0 = some r) : Calls Tryz.prog 19 #[.slice A0 l0.length c0] w fun e w' => e = .returned (.bool r) ∧ Below w.heap.size w w' := by
 unfold impl_IsLattice.f at h
 cases hw : impl_IsWord.f l0 with
 | none => rw [hw] at h; cases h
 | some b =>
  rw [hw] at h
  simp only [Option.bind_some, Option.some.injEq] at h
  subst h
  cases b with
  | false => rw [Bool.false_and]; exact callsIn_wide.1 (isLattice_not A0 c0 l0 w hr0 hc0 hw)
  | true =>
   rw [Bool.true_and]
   refine callsIn_wide.1 (isLattice_in A0 c0 l0 w hr0 hc0 hw (fun z hz => ?_))
   have h := Option.some.inj hw
   simp only [Bool.and_eq_true, Bool.not_eq_true', List.any_eq_false, Bool.not_eq_eq_eq_not, Bool.not_true, decide_eq_false_iff_not, Bool.not_false, decide_eq_true_eq] at h
   have h2 := h.2 z hz
   simpa using h2
end

end Go.Proofs.YtpandocpclecgaaGreatDoor.F
