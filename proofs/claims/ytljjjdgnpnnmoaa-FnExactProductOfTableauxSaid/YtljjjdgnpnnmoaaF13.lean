/- For each Go function named below: the plain Lean function that it computes, and that its call returns just that; conditions: those that each theorem names. -/
import Derived.Test.YtljjjdgnpnnmoaaF0
import Derived.Test.YtljjjdgnpnnmoaaF8
import Derived.Test.YtljjjdgnpnnmoaaF9
import Derived.Test.YtljjjdgnpnnmoaaF12
namespace Go.Proofs.Ytljjjdgnpnnmoaa.F
open Go.RowKit Go.Proofs.YtljjjdgnpnnmoaaW.PrintWords Go.Proofs.YtljjjdgnpnnmoaaW.PrintLast Go.Proofs.YtljjjdgnpnnmoaaW.PrintMore
attribute [local go_sem] max2_int min2_int max_two min_two max_three min_three max_four min_four   -- for this text's walks alone
set_option linter.unusedVariables false
set_option linter.unusedSimpArgs false

section
open Go.Shelf
attribute [local go_sem] Oper.semAt_some
def backToR {α : Type} (el : Nat → α) (k : Nat) : List α := (List.range k).map el
theorem backToR_succ {α : Type} (el : Nat → α) (k : Nat) : backToR el (k + 1) = backToR el k ++ [el k] := by simp [backToR, List.range_succ]
theorem backToR_length {α : Type} (el : Nat → α) (k : Nat) : (backToR el k).length = k := by simp [backToR]
def BackKeepsR (n₀ Bs : Nat) (A B : World) : Prop := Below n₀ A B ∧ (Bs < A.heap.size → B.heap[Bs]? = A.heap[Bs]?) ∧ A.heap.size ≤ B.heap.size
theorem backKeeps_reflR (n₀ Bs : Nat) (A : World) : BackKeepsR n₀ Bs A A := ⟨Below.refl _ _, fun _ => rfl, Nat.le_refl _⟩
theorem backKeeps_tR {n₀ Bs : Nat} {A B C : World} (h : BackKeepsR n₀ Bs A B) (k : BackKeepsR n₀ Bs B C) : BackKeepsR n₀ Bs A C :=
  ⟨h.1.trans k.1, fun hl => (k.2.1 (Nat.lt_of_lt_of_le hl h.2.2)).trans (h.2.1 hl), Nat.le_trans h.2.2 k.2.2⟩
theorem backKeeps_bR {n₀ Bs : Nat} {w : World} (hn : n₀ ≤ w.heap.size) (hb : Bs < w.heap.size) (W : World) (l : Nat) (o o' : Obj) (hl : w.heap.size ≤ l) (h : W.heap[l]? = some o) (_ : o.isCells = false) (_ : o.isWalk = false) : BackKeepsR n₀ Bs W (W.putObj l o') := by
  have g := grownBy_putObj' W l o'
  refine ⟨(Below.refl n₀ W).grown g (by have := (Array.getElem?_eq_some_iff.1 h).1; omega) (fun k e => by cases e; omega), fun hlt => g.block Bs hlt (fun e => by cases e; omega), g.size⟩
def BackAt (W0 : World) (A : Option Addr) (N k : Nat) (vs : Array Value) : Prop := ∃ A1 n1 c1 ad, vs = #[.int .i64 ((N - 1 - k : Nat) : Int), .slice A1 n1 c1] ∧ A = some ad ∧ W0.cell? (ad.add (N - 1 - k)) = some (.slice A1 n1 c1)
set_option maxRecDepth 100000 in
set_option maxHeartbeats 2000000 in
theorem back1r_in {α : Type} (encs : α → Array Value) (el : Nat → α) (F : Fence) (n : Nat) (hf : F.fn 77) (hro : F.round = none) (hn : 1 ≤ n) (l Bs n₀ : Nat) (A : Option Addr) (N cap : Nat) (W0 : World) (hn0 : n₀ = W0.heap.size) (hlen : N ≤ 9223372036854775807) (hel : ∀ k, k < N → BackAt W0 A N k (encs (el k))) (J Jx : List α → World → Prop)
    (hY : ∀ pre x W, J pre W → pre.length < N → YieldAt F (n - 1) Try.prog l (encs x) W fun e W' =>
      (e = .returned (.bool true) ∧ J (pre ++ [x]) W' ∧ BackKeepsR n₀ Bs W W') ∨ (e = .returned (.bool false) ∧ Jx (pre ++ [x]) W'))
    (W : World) (hW : Below n₀ W0 W) (hBs : W.heap[Bs]? = some (.cells #[.slice A N cap] 23 (0, 0))) (h0 : J [] W) :
    CallsIn F n Try.prog 77 #[.func (.yield l) #[] #[], .pointer (some ⟨Bs, 0, none⟩)] W fun e W' => (∃ v, e = .returned v) ∧
      ((∃ ys, ys = backToR el N ∧ J ys W') ∨ (∃ pre, (∃ k, k ≤ N ∧ pre = backToR el k) ∧ Jx pre W')) := by
  have HEL := Aside0.mk hel
  clear hel
  refine callsIn_of_wp Try.func77 rfl hf ?_ hro
  simp only [Try.ntmps77, List.size_toArray, List.length_cons, List.length_nil, Nat.reduceAdd, Nat.reduceSub, Array.replicate_succ, Array.replicate_zero, List.push_toArray, List.append_toArray, List.nil_append, List.cons_append]
  have hz0 : W.cell? ⟨Bs, 0, none⟩ = some (.slice A N cap) := (blk_cell hBs 0).trans rfl
  gi_wp2
  gi_loopw [3] (fun i wr => ∃ k : Nat, k ≤ N ∧ i = .int .i64 ((N : Int) - 1 - (k : Int)) ∧ J (backToR el k) wr ∧ BackKeepsR n₀ Bs W wr)
    (fun i _ => (intOf i + 1).toNat)
  case atStart => exact ⟨0, Nat.zero_le _, by go_num, h0, backKeeps_reflR _ _ _⟩
  case round =>
    obtain ⟨k, hk, rfl, hJs, hnx⟩ := hrel
    have hzr : wr.cell? ⟨Bs, 0, none⟩ = some (.slice A N cap) := (blk_cell ((hnx.2.1 (blk_lt hBs)).trans hBs) 0).trans rfl
    by_cases hlt : k < N
    · have hge : (0 : Int) ≤ (N : Int) - 1 - (k : Int) := by omega
      have hub : (N : Int) - 1 - (k : Int) < (N : Int) := by omega
      have hYk := hY _ (el k) wr hJs (by rw [backToR_length]; exact hlt)
      obtain ⟨A1, n1, c1, ad, he, hA, hx0⟩ := HEL.out k hlt
      subst hA
      rw [he] at hYk
      obtain ⟨fn, tmps, assign, body, hy, hR⟩ := hYk
      have et : ((N : Int) - 1 - (k : Int)).toNat = N - 1 - k := by omega
      have ei : ((N : Int) - 1 - (k : Int)) = ((N - 1 - k : Nat) : Int) := by omega
      have hx : wr.cell? (ad.add (N - 1 - k)) = some (.slice A1 n1 c1) := by
        refine ((hW.trans hnx.1).cell ?_).trans hx0
        rw [hn0]
        exact World.block_lt_of_cell? _ _ hx0
      gi_wp2
      refine hR.mono ?_
      rintro e W3 (⟨rfl, hJ3, hk3⟩ | ⟨rfl, hJx3⟩)
      · gi_wp2
        go_roundw
        case rel => exact ⟨k + 1, by omega, by go_num, by rw [backToR_succ]; exact hJ3, backKeeps_tR hnx hk3⟩
        case measure => simp [intOf]; omega
      · gi_wp2
        refine bodyPost_ret (results_none rfl _ _ _) rfl ?_
        exact ⟨⟨_, rfl⟩, .inr ⟨_, ⟨k + 1, by omega, by rw [backToR_succ]⟩, hJx3⟩⟩
    · obtain rfl : k = N := by omega
      have hneg : ¬ (0 : Int) ≤ (k : Int) - 1 - (k : Int) := by omega
      gi_wp2
      go_end0
      first | exact ⟨⟨_, rfl⟩, .inl ⟨_, rfl, hJs⟩⟩ | exact ⟨⟨_, rfl⟩, .inl hJs⟩
set_option maxHeartbeats 1000000 in
theorem backr_in (F : Fence) (n : Nat) (hf : F.fn 41) (hro : F.round = none) (A : Option Addr) (len cap : Nat) (w : World) :
    CallsIn F n Try.prog 41 #[.slice A len cap] w fun e w' => e = .returned (.func (.func 77) #[] #[.pointer (some ⟨w.heap.size, 0, none⟩)]) ∧ w' = w.alloc (.cells #[.slice A len cap] 23 (0, 0)) := by
  refine callsIn_of_wp Try.func41 rfl hf ?_ hro
  simp only [Try.ntmps41, List.size_toArray, List.length_cons, List.length_nil, Nat.reduceAdd, Nat.reduceSub, Array.replicate_succ, Array.replicate_zero, List.push_toArray, List.append_toArray, List.nil_append, List.cons_append]
  gi_wp2
  go_ret
  exact ⟨rfl, rfl⟩
theorem backr_stops {α : Type} (encs : α → Array Value) (el : Nat → α) (F : Fence) (n : Nat) (hf : F.fn 77) (hro : F.round = none) (hn : 1 ≤ n) (Bs n₀ : Nat) (A : Option Addr) (N cap : Nat) (W0 w : World) (hn0 : n₀ = W0.heap.size) (hlen : N ≤ 9223372036854775807)
    (hel : ∀ k, k < N → BackAt W0 A N k (encs (el k))) (hW : Below n₀ W0 w) (hnw : n₀ ≤ w.heap.size)
    (hBs : w.heap[Bs]? = some (.cells #[.slice A N cap] 23 (0, 0))) :
    SeqStopsK F n Try.prog 77 #[.pointer (some ⟨Bs, 0, none⟩)] encs (BackKeepsR n₀ Bs) (fun ys => ys = backToR el N)
      (fun pre => ∃ k, k ≤ N ∧ pre = backToR el k) N w := fun l J Jx W hWW _ _ hY h0 =>
  back1r_in encs el F n hf hro hn l Bs n₀ A N cap W0 hn0 hlen hel J Jx hY W (hW.trans (hWW.mono hnw)) ((hWW.block Bs (blk_lt hBs)).trans hBs) h0
end

section
open Go.Shelf
attribute [local go_sem] Oper.semAt_some
open BigFrame
def readAll (t : List (List Int)) : List Int := t.reverse.flatten
def impl_ReadingWord.f (k : Nat) (l0_0 : List Int) (l0_1 : List (List Int)) : Option (List Int) := (impl_IsTableau.f k l0_0 l0_1).bind fun b => if b = true then (if l0_1.length * l0_1.flatten.length < 17592186044416 then some (readAll l0_1) else none) else some []
theorem impl_ReadingWord.mono (l0_0 : List Int) (l0_1 : List (List Int)) (k : Nat) : LeO (impl_ReadingWord.f k l0_0 l0_1) (impl_ReadingWord.f (k + 1) l0_0 l0_1) := LeO.bind (impl_IsTableau.mono l0_0 l0_1 k) (fun _ => LeO.refl _)
abbrev RwRow (w : World) (b : Nat) := { x : Nat × Option Addr × Nat × List Int // x.2.2.2.length ≤ b ∧ x.2.2.2.length ≤ x.2.2.1 ∧ (Kd.int .i64).C w x.2.1 x.2.2.2.length x.2.2.2 }
def rwEnc {w : World} {b : Nat} (x : RwRow w b) : Array Value := #[.int .i64 (x.1.1 : Int), .slice x.1.2.1 x.1.2.2.2.length x.1.2.2.1]
def rwRow {w : World} {b : Nat} (x : RwRow w b) : List Int := x.1.2.2.2
theorem row_le_all {r : List Int} : ∀ {l : List (List Int)}, r ∈ l → r.length ≤ l.flatten.length
 | [], h => by cases h
 | s :: l, h => by
  rw [List.flatten_cons, List.length_append]
  rcases List.mem_cons.1 h with rfl | h
  ·omega
  ·have := row_le_all h
   omega
theorem rw_all_len {w : World} {b : Nat} : ∀ (pre : List (RwRow w b)), (pre.map rwRow).flatten.length ≤ pre.length * b
 | [] => by simp
 | x :: pre => by
  have h := rw_all_len pre
  have hx : (rwRow x).length ≤ b := x.2.1
  rw [List.map_cons, List.flatten_cons, List.length_append, List.length_cons, Nat.succ_mul]
  omega
theorem rwEl_ex {w : World} {A : Option Addr} {l : List (List Int)} (hC : Kd.C (Kd.slice 3 (Kd.int .i64)) w A l.length l) (k : Nat) : ∃ x : RwRow w l.flatten.length, k < l.length → BackAt w A l.length k (rwEnc x) ∧ l.reverse[k]? = some (rwRow x) := by
 by_cases hk : k < l.length
 ·have h1 : ((l.length - 1 - k : Nat) : Int) < (l.length : Int) := by omega
  obtain ⟨ad, A0, c0, e, hx, hl, hi⟩ := at_L1 hC ((l.length - 1 - k : Nat) : Int) (by omega) h1
  have er : rd_L1 l ((l.length - 1 - k : Nat) : Int) = l[l.length - 1 - k]'(by omega) := by unfold rd_L1; rw [Int.toNat_natCast, List.getD_eq_getElem?_getD, List.getElem?_eq_getElem (by omega)]; rfl
  rw [Int.toNat_natCast] at hx
  refine ⟨⟨(l.length - 1 - k, A0, c0, rd_L1 l ((l.length - 1 - k : Nat) : Int)), by rw [er]; exact row_le_all (List.getElem_mem _), hl, hi⟩, fun _ => ⟨⟨_, _, _, ad, rfl, e, hx⟩, ?_⟩⟩
  show _ = some (rd_L1 l _)
  rw [er, List.getElem?_reverse hk, List.getElem?_eq_getElem (by omega)]
 ·exact ⟨⟨(0, none, 0, []), Nat.zero_le _, Nat.le_refl _, Kd.C_nil _ _⟩, fun h => absurd h hk⟩
theorem rw_all {w : World} {b : Nat} (l : List (List Int)) (el : Nat → RwRow w b) (hel : ∀ k, k < l.length → l.reverse[k]? = some (rwRow (el k))) : ((backToR el l.length).map rwRow) = l.reverse := by
 apply List.ext_getElem?
 intro k
 by_cases hk : k < l.length
 ·rw [hel k hk]
  simp [backToR, hk]
 ·rw [List.getElem?_eq_none (by simp [backToR]; omega), List.getElem?_eq_none (by simp; omega)]
theorem run_append_ints {W : World} (base ty : Nat) (v : Value) (xs ys : List Int) (A : Option Addr) (m c : Nat) (ok : Nat → Prop) (hfresh : ∀ k, W.heap.size ≤ k → ok k) (HO : Kd.R (Kd.int .i64) 3 W base ok v xs) (HR : Kd.C (Kd.int .i64) W A m ys) (hbase : base ≤ W.heap.size) (hl : (xs.length + m) * 8 ≤ 140737488355328) :
  ∃ v1 w1, (Builtin.append_ #[22, 22] ty #[v, .slice A m c]).run Try.prog W = .ok v1 w1 ∧ Kd.R (Kd.int .i64) 3 w1 base ok v1 (xs ++ ys) ∧ Below base W w1 ∧ W.grownBy w1 v.ownBlock ∧ (v1.ownBlock = v.ownBlock ∨ ∃ b, v1.ownBlock = some b ∧ W.heap.size ≤ b) := by
 have h := Kd.R_append_row (P := Try.prog) (ops := #[]) (rest := []) (o := { dst := some 2, op := .call { callee := .builtin .append, args := #[.tmp 0, .tmp 1], argTypes := #[22, 22] }, type := ty, pos := "", after := #[], guard := none }) (a := { tmps := #[v, .slice A m c, undef], defers := [] })
  (Q := fun e a w1 => e = .normal ∧ ∃ v1, a.tmps[2]? = some v1 ∧ Kd.R (Kd.int .i64) 3 w1 base ok v1 (xs ++ ys) ∧ Below base W w1 ∧ W.grownBy w1 v.ownBlock ∧ (v1.ownBlock = v.ownBlock ∨ ∃ b, v1.ownBlock = some b ∧ W.heap.size ≤ b)) (w0 := W) (fun n => Value.int .i64 n) 0 base rfl (.tmp 0) (.tmp 1) 22 3 (.int .i64 0) 8 rfl Try.underlying22 info3 rfl (by decide) v xs ys A m c ok rfl rfl hfresh HO HR (Below.refl _ _) hbase hl
  (fun v1 w1 h1 h2 h3 h4 => ⟨rfl, v1, rfl, h1, h2, h3, h4⟩)
 cases hr : (Builtin.append_ #[22, 22] ty #[v, .slice A m c]).run Try.prog W with
 | ok v1 w1 =>
  simp [wpList, Region.wanted, Oper.wp, execOp, resolve, invoke, builtin, hr, Result.andThen, Oper.upon, Act.put, Act.eval, LetsOut] at h
  exact ⟨_, _, rfl, h⟩
 | halt x w1 =>
  cases x <;> simp [wpList, Region.wanted, Oper.wp, execOp, resolve, invoke, builtin, hr, Result.andThen, Oper.upon, Act.put, Act.eval, LetsOut] at h
theorem wpListIn_append_run {F : Fence} {n : Nat} {P : Program} {W : World} {ops : Array Oper} {rest : List Oper} {o : Oper} {a : Act} {Q : Exit → Act → World → Prop}
  (hg : o.guard = none) (s x : Operand) (t : TypeId) (hop : o.op = Op.call { callee := Callee.builtin Builtin.append, args := #[s, x], argTypes := #[t, t] }) {v u v1 : Value} {w1 : World} (hs : a.eval s = v) (hx : a.eval x = u)
  (hrun : (Builtin.append_ #[t, t] o.type #[v, u]).run P W = .ok v1 w1) (hK : wpListIn F n P ops Q rest (a.put o.dst v1) w1) : wpListIn F n P ops Q (o :: rest) a W := by
 refine wpListIn_plain hg fun K hK' => ?_
 unfold Oper.wpIn
 refine ⟨?_, ?_⟩
 ·simp [Oper.about, hop, resolve, Target.leads, Sem.run_pure]
 ·rw [Oper.semAt_plain F _ _ (by rw [hop]; intro c hc'; cases hc')]
  simp [execOp, hop, resolve, invoke, builtin, hs, hx, hrun, Result.andThen]
  exact hK' _ _ hK
theorem R_keptOn {α : Type} {d : Kd α} {e base : Nat} {ok : Nat → Prop} {w w' : World} {v : Value} {xs : List α} {row : Option Nat} (h : d.R e w base ok v xs) (hg : w.grownBy w' row) (hr : ∀ r, row = some r → ∃ o : Obj, w.heap[r]? = some o ∧ o.isCells = false) : d.R e w' base ok v xs :=
 Kd.R_mono (Kd.R_grown (Kd.R_bound h) hg (fun k hk e1 => by
  obtain ⟨o, ho, hc⟩ := hr k e1.symm
  obtain ⟨_, _, _, q, _, cells, hcell⟩ := hk
  rw [hcell] at ho; cases ho; cases hc)) (fun k hk => hk.1)
theorem blk_keptOnR {W W' : World} {row : Option Nat} {b t : Nat} {cs : Array Value} (h : W.heap[b]? = some (.cells cs t (0, 0))) (hg : W.grownBy W' row) (hr : ∀ r, row = some r → ∃ o : Obj, W.heap[r]? = some o ∧ o.isCells = false) : W'.heap[b]? = some (.cells cs t (0, 0)) :=
 (grownBy_keeps_cells hg hr h rfl).trans h
set_option maxHeartbeats 4000000 in
set_option maxRecDepth 100000 in
theorem readingWord_in (k : Nat) (A0_0 : Option Addr) (c0_0 : Nat) (l0_0 : List Int) (A0_1 : Option Addr) (c0_1 : Nat) (l0_1 : List (List Int)) (w : World) (hr0_0 : Kd.C (Kd.int .i64) w A0_0 l0_0.length l0_0) (hc0_0 : l0_0.length ≤ c0_0) (hr0_1 : Kd.C (Kd.slice 3 (Kd.int .i64)) w A0_1 l0_1.length l0_1) (hc0_1 : l0_1.length ≤ c0_1) (hw : impl_IsTableau.f k l0_0 l0_1 = some true) (hbd : l0_1.length * l0_1.flatten.length < 17592186044416) :
  CallsIn Fence.wide 3 Try.prog 16 #[.agg #[.slice A0_0 l0_0.length c0_0, .slice A0_1 l0_1.length c0_1]] w fun e w' => ∃ v0_ : Value, e = .returned v0_ ∧ Kd.R (Kd.int .i64) 3 w' w.heap.size (fun _ => True) v0_ (readAll l0_1) ∧ Below w.heap.size w w' := by
 obtain ⟨el, hel⟩ := Classical.axiomOfChoice (rwEl_ex hr0_1)
 have HEL := Aside0.mk hel
 have HR0 := Aside0.mk hr0_0
 have HC0 := Aside0.mk hc0_0
 have HR1 := Aside0.mk hr0_1
 have HC1 := Aside0.mk hc0_1
 have HW := Aside0.mk hw
 have HBD := Aside0.mk hbd
 clear hr0_0 hc0_0 hr0_1 hc0_1 hw hbd hel
 refine callsIn_of_wp_marks Try.func16 rfl trivial ?_ rfl
 simp only [Try.ntmps16, List.size_toArray, List.length_cons, List.length_nil, Nat.reduceAdd, Nat.reduceSub, Array.replicate_succ, Array.replicate_zero, List.push_toArray, List.append_toArray, List.nil_append, List.cons_append]
 gi_wp2_with (first
  | (gi_at_call 38; refine (callsIn_wide.2 (impl_IsTableau.calls k A0_0 c0_0 l0_0 A0_1 c0_1 l0_1 true _ (Kd.C_alloc HR0.out _) HC0.out (Kd.C_alloc HR1.out _) HC1.out HW.out)).mono ?_; rintro e w6 ⟨rfl, hd⟩; have D6 := Aside0.mk hd; have hb6 : w6.heap[w.heap.size]? = some (.cells #[.slice A0_0 l0_0.length c0_0, .slice A0_1 l0_1.length c0_1] 28 (0, 0)) := (hd.block _ (by rw [World.size_alloc]; omega)).trans (blk_new w _); have hc6 : ((w6.alloc (.cells #[] 3 (0, 0))).alloc (.cells #[.slice (some ⟨w6.heap.size, 0, none⟩) 0 0] 22 (0, 0))).cell? ⟨w.heap.size, 1, none⟩ = some (.slice A0_1 l0_1.length c0_1) := by { have hlt := blk_lt hb6; exact (blk_cell ((Below.heap_alloc _ _ _ (by rw [World.size_alloc]; omega)).trans ((Below.heap_alloc _ _ _ hlt).trans hb6)) 1).trans rfl }; clear hd hb6)
  | (gi_at_call 41; refine (backr_in Fence.wide 2 trivial rfl _ _ _ _).mono ?_; rintro e w7 ⟨rfl, rfl⟩)
  | (refine ⟨trivial, ?_⟩; gi_at_call 38; refine (callsIn_wide.2 (impl_IsTableau.calls k A0_0 c0_0 l0_0 A0_1 c0_1 l0_1 true _ (Kd.C_alloc HR0.out _) HC0.out (Kd.C_alloc HR1.out _) HC1.out HW.out)).mono ?_; rintro e w6 ⟨rfl, hd⟩; have D6 := Aside0.mk hd; have hb6 : w6.heap[w.heap.size]? = some (.cells #[.slice A0_0 l0_0.length c0_0, .slice A0_1 l0_1.length c0_1] 28 (0, 0)) := (hd.block _ (by rw [World.size_alloc]; omega)).trans (blk_new w _); have hc6 : ((w6.alloc (.cells #[] 3 (0, 0))).alloc (.cells #[.slice (some ⟨w6.heap.size, 0, none⟩) 0 0] 22 (0, 0))).cell? ⟨w.heap.size, 1, none⟩ = some (.slice A0_1 l0_1.length c0_1) := by { have hlt := blk_lt hb6; exact (blk_cell ((Below.heap_alloc _ _ _ (by rw [World.size_alloc]; omega)).trans ((Below.heap_alloc _ _ _ hlt).trans hb6)) 1).trans rfl }; clear hd hb6)
  | (refine ⟨trivial, ?_⟩; gi_at_call 41; refine (backr_in Fence.wide 2 trivial rfl _ _ _ _).mono ?_; rintro e w7 ⟨rfl, rfl⟩))
 obtain ⟨N, hN⟩ : ∃ N, N = w.heap.size := ⟨_, rfl⟩
 obtain ⟨M, hM⟩ : ∃ M, M = w6.heap.size := ⟨_, rfl⟩
 have hD6 := D6.out
 have hNM : N < M := by have := hD6.size; rw [World.size_alloc] at this; omega
 have b6 : Below N w w6 := by rw [hN]; exact ((Below.refl _ w).alloc (Nat.le_refl _) _).trans (hD6.mono (by rw [World.size_alloc]; omega))
 rw [← hN] at hc6 ⊢
 rw [← hM] at hc6 ⊢
 obtain ⟨WA, hWA⟩ : ∃ WA, WA = w6.alloc (.cells #[] 3 (0, 0)) := ⟨_, rfl⟩
 rw [← hWA]
 obtain ⟨WB, hWB⟩ : ∃ WB, WB = WA.alloc (.cells #[.slice (some ⟨M, 0, none⟩) 0 0] 22 (0, 0)) := ⟨_, rfl⟩
 rw [← hWB]
 obtain ⟨W0, hW0⟩ : ∃ W0, W0 = WB.alloc (.cells #[.slice A0_1 l0_1.length c0_1] 23 (0, 0)) := ⟨_, rfl⟩
 rw [← hW0]
 have sA : WA.heap.size = M + 1 := by rw [hWA, World.size_alloc, hM]
 have sB : WB.heap.size = M + 2 := by rw [hWB, World.size_alloc, sA]
 have s0 : W0.heap.size = M + 3 := by rw [hW0, World.size_alloc, sB]
 have hmA : WA.heap[M]? = some (.cells #[] 3 (0, 0)) := by rw [hWA, hM]; exact World.alloc_heap_new w6 _
 have h3B : WB.heap[M + 1]? = some (.cells #[.slice (some ⟨M, 0, none⟩) 0 0] 22 (0, 0)) := by rw [hWB, ← sA]; exact World.alloc_heap_new WA _
 have hs0 : W0.heap[M + 2]? = some (.cells #[.slice A0_1 l0_1.length c0_1] 23 (0, 0)) := by rw [hW0, ← sB]; exact World.alloc_heap_new WB _
 have h30 : W0.heap[M + 1]? = some (.cells #[.slice (some ⟨M, 0, none⟩) 0 0] 22 (0, 0)) := by rw [hW0]; exact (Below.heap_alloc _ _ _ (by omega)).trans h3B
 have hm0 : W0.heap[M]? = some (.cells #[] 3 (0, 0)) := by rw [hW0, hWB]; exact (Below.heap_alloc _ _ _ (by rw [← hWB]; omega)).trans ((Below.heap_alloc _ _ _ (by omega)).trans hmA)
 have hB0 : Below N w W0 := by rw [hW0, hWB, hWA]; exact ((b6.alloc (by omega) _).alloc (by rw [← hWA]; omega) _).alloc (by rw [← hWA, ← hWB]; omega) _
 have hR0 : Kd.R (Kd.int .i64) 3 W0 N (fun k => k ≠ M + 1 ∧ k ≠ M + 2) (.slice (some ⟨M, 0, none⟩) 0 0) [] :=
  Kd.R_of_own (enc := fun n : Int => Value.int .i64 n) ⟨rfl, .inr ⟨M, 0, #[], rfl, by omega, hm0, Nat.le_refl _, by decide, rfl, rfl⟩⟩ (fun k hk => by
   have e : M = k := by simpa [Value.ownBlock] using hk
   omega)
 refine wpIn_rangeFunc_ownF rfl (by decide) (gf := 77) (lb := #[.pointer (some ⟨M + 2, 0, none⟩)]) rfl trivial (enters_of Try.func77 (by kernel_rfl) rfl)
  (backr_stops (fun x : RwRow w l0_1.flatten.length => rwEnc x) el Fence.wide 2 trivial rfl (by decide) (M + 2) N A0_1 l0_1.length c0_1 w W0 hN HR1.out.2.1 (fun k hk => (HEL.out k hk).1) hB0 (by omega) hs0)
  backKeeps_tR (backKeeps_bR (by omega) (by omega)) (Below.refl _ _) (fun _ => rfl)
  (fun pre W => (∃ v, Kd.R (Kd.int .i64) 3 W N (fun k => k ≠ M + 1 ∧ k ≠ M + 2) v (pre.map rwRow).flatten ∧ W.heap[M + 1]? = some (.cells #[v] 22 (0, 0)) ∧ M + 3 ≤ W.heap.size) ∧ Below N w W)
  (fun c pre W => False)
  (OwnFrom.and (Own.from (fun s A B row hs hg hr => by
   obtain ⟨v, h1, h2, h3⟩ := hs
   exact ⟨v, R_keptOn h1 hg hr, blk_keptOnR h2 hg hr, Nat.le_trans h3 hg.size⟩) _) (ownFrom_below (by omega) (by omega)))
  (fun c => Own.from (fun s A B row hs hg hr => hs) _)
  ⟨⟨_, hR0, h30, by omega⟩, hB0⟩
  (fun x => { tmps := #[.agg #[.slice A0_0 l0_0.length c0_0, .slice A0_1 l0_1.length c0_1], .pointer (some ⟨N, 0, none⟩), .slice none 0 0, .pointer (some ⟨M + 1, 0, none⟩), undef, .slice x.1.2.1 x.1.2.2.2.length x.1.2.2.1, .agg #[.slice A0_0 l0_0.length c0_0, .slice A0_1 l0_1.length c0_1], .bool true, .bool false, .slice (some ⟨M, 0, none⟩) 0 0, .pointer (some ⟨N, 1, none⟩), .slice A0_1 l0_1.length c0_1, .func (.func 77) #[] #[.pointer (some ⟨M + 1 + 1, 0, none⟩)], .int .i64 (x.1.1 : Int), .slice x.1.2.1 x.1.2.2.2.length x.1.2.2.1, undef, undef, undef, undef], defers := [] }) ?assign ?body ?done ?stop
 case assign =>
  intro l x W K hK
  clear hN hM
  simp only [rwEnc]
  gi_wp2
  exact hK
 case body =>
  rintro l pre ⟨⟨i, Ar, cr, row⟩, hrb, hrc, hrC⟩ W ⟨⟨v, hR, hbx, hsz⟩, hB⟩ hpre
  simp only at hrb hrc hrC
  have hlen : (pre.map rwRow).flatten.length + row.length ≤ l0_1.length * l0_1.flatten.length := by
   have h1 := rw_all_len pre
   have h2 := Nat.mul_le_mul_right l0_1.flatten.length (show pre.length + 1 ≤ l0_1.length from hpre)
   rw [Nat.succ_mul] at h2
   omega
  generalize hxs : (pre.map rwRow).flatten = xs at hR hlen
  obtain ⟨Av, cv, rfl⟩ := Kd.R_slice hR
  have HXS := Aside0.mk hxs
  clear hxs
  have hCW : Kd.C (Kd.int .i64) W Ar row.length row := Kd.C_below hrC (by rw [← hN]; exact hB)
  have hbd := HBD.out
  obtain ⟨v1, w1, hrun, h1, h2, h3, h4⟩ := run_append_ints N 22 _ _ row Ar row.length cr _ (fun k hk => ⟨by omega, by omega⟩) hR hCW (by omega) (by omega)
  obtain ⟨A1, c1, rfl⟩ := Kd.R_slice h1
  have hne : some (M + 1) ≠ (Value.slice Av xs.length cv).ownBlock := fun e => (hR.1 _ e.symm).1 rfl
  have hne2 : some (M + 2) ≠ (Value.slice Av xs.length cv).ownBlock := fun e => (hR.1 _ e.symm).2 rfl
  have hb1 : w1.heap[M + 1]? = some (.cells #[.slice Av xs.length cv] 22 (0, 0)) := (h3.block _ (blk_lt hbx) hne).trans hbx
  have hc3 : W.cell? ⟨M + 1, 0, none⟩ = some (.slice Av xs.length cv) := (blk_cell hbx 0).trans rfl
  have hc1 : w1.cell? ⟨M + 1, 0, none⟩ = some (.slice Av xs.length cv) := (blk_cell hb1 0).trans rfl
  have hf1 : w1.frozen? ⟨M + 1, 0, none⟩ = false := blk_frozen hb1 0
  have hKO : KeepsOthers W w1 := KeepsOthers.of_grownBy h3 (fun j o ej hj => by
   obtain ⟨cells, hcell⟩ := Kd.R_typed hR j ej
   rw [hcell] at hj
   cases hj
   rfl)
  have HK := Aside0.mk hKO
  have HX := Aside0.mk (And.intro h1 (And.intro h2 (And.intro h3 (And.intro hb1 (And.intro hR (And.intro hB (And.intro hsz hne2)))))))
  clear hKO h1 h2 h3 h4 hb1 hR hB hsz hne hne2 hlen hbd hCW hbx
  have HNM := Aside0.mk hNM
  clear hN hM hD6 hNM b6 hc6 hWA hWB hW0 sA sB s0 hmA h3B hs0 h30 hm0 hB0 hR0
  gi_wp2_with (gi_at_builtin; refine wpListIn_append_run (by rfl) (.tmp 15) (.tmp 16) _ (by rfl) (by rfl) (by rfl) hrun ?_)
  obtain ⟨h1, h2, h3, hb1, hR, hB, hsz, hne2⟩ := HX.out
  rw [← List.length_append]
  have hNM := HNM.out
  have e : ((pre ++ [(⟨(i, Ar, cr, row), hrb, hrc, hrC⟩ : RwRow w l0_1.flatten.length)]).map rwRow).flatten = xs ++ row := by rw [List.map_append, List.flatten_append, HXS.out]; simp [rwRow]
  refine ⟨HK.out.trans (KeepsOthers.setCell _ _ _), ⟨h2.setCell (p := ⟨M + 1, 0, none⟩) (show N ≤ M + 1 by omega) _, fun hlt => (Below.heap_setCell _ _ _ _ (show M + 2 ≠ M + 1 by omega)).trans (h3.block _ hlt hne2), Nat.le_trans h3.size (by simp [World.setCell])⟩, ⟨_, ?_, blk_put hb1 0 _ rfl, Nat.le_trans hsz (Nat.le_trans h3.size (by simp [World.setCell]))⟩, (hB.trans h2).setCell (p := ⟨M + 1, 0, none⟩) (show N ≤ M + 1 by omega) _⟩
  rw [e]
  exact Kd.R_far h1 (fun k hk => hk.1) _
 case done =>
  rintro D ys W hD hys ⟨⟨v, hR, hbx, hsz⟩, hB⟩ hK
  have hall : (ys.map rwRow).flatten = readAll l0_1 := by rw [hys, rw_all l0_1 el (fun k hk => (HEL.out k hk).2)]; rfl
  rw [hall] at hR
  obtain ⟨Av, cv, rfl⟩ := Kd.R_slice hR
  have hc3 : W.cell? ⟨M + 1, 0, none⟩ = some (.slice Av (readAll l0_1).length cv) := (blk_cell hbx 0).trans rfl
  have HN := Aside0.mk hN
  have HX := Aside0.mk (And.intro hR (And.intro hB (And.intro hD (And.intro s0 hNM))))
  clear hN hM hD6 hNM b6 hc6 hWA hWB hW0 sA sB s0 hmA h3B hs0 h30 hm0 hB0 hR0 hR hB hD hall hys hbx hsz
  gi_wp2
  obtain ⟨hR, hB, hD, s0, hNM⟩ := HX.out
  refine ⟨by simp, .inl ⟨_, _, rfl, run_takeDeferred hK, ?_⟩⟩
  refine ⟨.slice Av (readAll l0_1).length cv, ?_, _, rfl, ?_, ?_⟩
  ·simp [results, Try.f16, go_sem]
  ·rw [← HN.out]
   exact Kd.R_mono (R_keptOn hR (grownBy_putObj' _ D (.deferred none)) (fun r e => by cases e; exact ⟨_, hK, rfl⟩)) (fun _ _ => trivial)
  ·rw [← HN.out]
   exact hB.grown (grownBy_putObj' _ D (.deferred none)) (Nat.le_trans (show N ≤ M + 3 by omega) (by have := (Array.getElem?_eq_some_iff.1 hK).1; omega)) (fun k e => by cases e; omega)
 case stop =>
  rintro D c pre W hD hpre hF hK
  exact hF.elim
set_option maxHeartbeats 4000000 in
set_option maxRecDepth 100000 in
theorem readingWord_not (k : Nat) (A0_0 : Option Addr) (c0_0 : Nat) (l0_0 : List Int) (A0_1 : Option Addr) (c0_1 : Nat) (l0_1 : List (List Int)) (w : World) (hr0_0 : Kd.C (Kd.int .i64) w A0_0 l0_0.length l0_0) (hc0_0 : l0_0.length ≤ c0_0) (hr0_1 : Kd.C (Kd.slice 3 (Kd.int .i64)) w A0_1 l0_1.length l0_1) (hc0_1 : l0_1.length ≤ c0_1) (hw : impl_IsTableau.f k l0_0 l0_1 = some false) :
  CallsIn Fence.wide 3 Try.prog 16 #[.agg #[.slice A0_0 l0_0.length c0_0, .slice A0_1 l0_1.length c0_1]] w fun e w' => ∃ v0_ : Value, e = .returned v0_ ∧ Kd.R (Kd.int .i64) 3 w' w.heap.size (fun _ => True) v0_ [] ∧ Below w.heap.size w w' := by
 have HR0 := Aside0.mk hr0_0
 have HC0 := Aside0.mk hc0_0
 have HR1 := Aside0.mk hr0_1
 have HC1 := Aside0.mk hc0_1
 have HW := Aside0.mk hw
 clear hr0_0 hc0_0 hr0_1 hc0_1 hw
 refine callsIn_of_wp_marks Try.func16 rfl trivial ?_ rfl
 simp only [Try.ntmps16, List.size_toArray, List.length_cons, List.length_nil, Nat.reduceAdd, Nat.reduceSub, Array.replicate_succ, Array.replicate_zero, List.push_toArray, List.append_toArray, List.nil_append, List.cons_append]
 gi_wp2_with (first
  | (gi_at_call 38; refine (callsIn_wide.2 (impl_IsTableau.calls k A0_0 c0_0 l0_0 A0_1 c0_1 l0_1 false _ (Kd.C_alloc HR0.out _) HC0.out (Kd.C_alloc HR1.out _) HC1.out HW.out)).mono ?_; rintro e w6 ⟨rfl, hd⟩; have D6 := Aside0.mk hd; clear hd)
  | (refine ⟨trivial, ?_⟩; gi_at_call 38; refine (callsIn_wide.2 (impl_IsTableau.calls k A0_0 c0_0 l0_0 A0_1 c0_1 l0_1 false _ (Kd.C_alloc HR0.out _) HC0.out (Kd.C_alloc HR1.out _) HC1.out HW.out)).mono ?_; rintro e w6 ⟨rfl, hd⟩; have D6 := Aside0.mk hd; clear hd))
 refine ⟨.slice none 0 0, ?_, _, rfl, Kd.R_nil _ _ _ _ _, ((Below.refl _ w).alloc (Nat.le_refl _) _).trans (D6.out.mono (by rw [World.size_alloc]; omega))⟩
 simp [results, Try.f16, go_sem]
theorem impl_ReadingWord.calls (k : Nat) (A0_0 : Option Addr) (c0_0 : Nat) (l0_0 : List Int) (A0_1 : Option Addr) (c0_1 : Nat) (l0_1 : List (List Int)) (r : List Int) (w : World) (hr0_0 : Kd.C (Kd.int .i64) w A0_0 l0_0.length l0_0) (hc0_0 : l0_0.length ≤ c0_0) (hr0_1 : Kd.C (Kd.slice 3 (Kd.int .i64)) w A0_1 l0_1.length l0_1) (hc0_1 : l0_1.length ≤ c0_1) (h : impl_ReadingWord.f k l0_0 l0_1 = some r) : Calls Try.prog 16 #[.agg #[.slice A0_0 l0_0.length c0_0, .slice A0_1 l0_1.length c0_1]] w fun e w' => ∃ v0_ : Value, e = .returned (v0_) ∧ Kd.R (Kd.int .i64) 3 w' w.heap.size (fun _ => True) v0_ r ∧ Below w.heap.size w w' := by
 unfold impl_ReadingWord.f at h
 cases hw : impl_IsTableau.f k l0_0 l0_1 with
 | none => rw [hw] at h; cases h
 | some b =>
  rw [hw] at h
  simp only [Option.bind_some] at h
  cases b with
  | false =>
   cases h
   exact callsIn_wide.1 (readingWord_not k A0_0 c0_0 l0_0 A0_1 c0_1 l0_1 w hr0_0 hc0_0 hr0_1 hc0_1 hw)
  | true =>
   by_cases hbd : l0_1.length * l0_1.flatten.length < 17592186044416
   ·rw [if_pos rfl, if_pos hbd] at h
    cases h
    exact callsIn_wide.1 (readingWord_in k A0_0 c0_0 l0_0 A0_1 c0_1 l0_1 w hr0_0 hc0_0 hr0_1 hc0_1 hw hbd)
   ·rw [if_pos rfl, if_neg hbd] at h
    cases h
end

def impl_isPlain.f (k : Nat) (l0_0 : List Int) (l0_1 : List (List Int)) : Option (Bool) := if (l0_0.length : Int) = 0 then ((impl_IsTableau.f k l0_0 l0_1).bind fun t314 => (some t314)) else (some false)
theorem impl_isPlain.mono : ∀ a0 a1 k, LeO (impl_isPlain.f k a0 a1) (impl_isPlain.f (k + 1) a0 a1) := by
 intro a0 a1 k
 unfold impl_isPlain.f
 repeat' first
   | (with_reducible exact impl_IsTableau.mono _ _ _)
   | (with_reducible exact LeO.refl _)
   | (with_reducible exact LeO.none _)
   | (with_reducible refine LeO.ite ?_ ?_)
   | (with_reducible refine LeO.bind ?_ (fun _ => ?_))
   | exact impl_IsTableau.mono _ _ _
   | exact LeO.none _
   | refine LeO.ite ?_ ?_
   | refine LeO.bind ?_ (fun _ => ?_)
set_option maxHeartbeats 8000000 in
set_option maxRecDepth 100000 in
theorem impl_isPlain.calls (k : Nat) (A0_0 : Option Addr) (c0_0 : Nat) (l0_0 : List Int) (A0_1 : Option Addr) (c0_1 : Nat) (l0_1 : List (List Int)) (r : Bool) (w : World) (hr0_0 : Kd.C (Kd.int .i64) w A0_0 l0_0.length l0_0) (hc0_0 : l0_0.length ≤ c0_0) (hr0_1 : Kd.C (Kd.slice 3 (Kd.int .i64)) w A0_1 l0_1.length l0_1) (hc0_1 : l0_1.length ≤ c0_1) (h : impl_isPlain.f k l0_0 l0_1 = some r) :
  Calls Try.prog 63 #[.agg #[.slice A0_0 l0_0.length c0_0, .slice A0_1 l0_1.length c0_1]] w fun e w' => e = .returned (.bool r) ∧ Below w.heap.size w w' := by
 have hu28 := Try.underlying28
 have HR0_0 := Aside0.mk hr0_0
 have HC0_0 := Aside0.mk hc0_0
 clear hr0_0 hc0_0
 have HR0_1 := Aside0.mk hr0_1
 have HC0_1 := Aside0.mk hc0_1
 clear hr0_1 hc0_1
 have HB := Aside0.mk (Below.refl w.heap.size w)
 have H : (if (l0_0.length : Int) = 0 then ((impl_IsTableau.f k l0_0 l0_1).bind fun t314 => (some t314)) else (some false)) = some r := h
 clear h
 by_cases c2 : (l0_0.length : Int) = 0
 ·rw [if_pos c2] at H
  have c2b0 : ((l0_0.length : Int) == 0) = true := beq_iff_eq.mpr c2
  have c2b1 : ((l0_0.length : Int) != 0) = false := bne_eq_false_iff_eq.mpr c2
  clear c2
  replace H := Option.bind_eq_some_iff.mp H
  obtain ⟨t314, A30, H⟩ := H
  replace H : (some t314) = some r := H
  have A3 := Aside0.mk A30
  clear A30
  obtain rfl := Option.some.inj H
  go_enter Try.func63, Try.ntmps63
  go_wp2_with (first | ((with_reducible refine gate_dst (N := 1) rfl ?_); refine zX (N := 1) (cs := #[.slice A0_0 l0_0.length c0_0, .slice A0_1 l0_1.length c0_1]) (t := 28) ?_; intro gb313 hg w4 hbox hb; have n0_ := Aside0.mk (below_step (by repeat (first | (with_reducible first | exact HB.out | apply below_alloc | apply pw_below_drewN | apply below_drew1) | exact HB.out)) hb); have n1_ := Aside0.mk (hbox); have n2_ := Aside0.mk ((by rw [hg]; exact (below_size (by repeat (first | (with_reducible first | exact HB.out | apply below_alloc | apply pw_below_drewN | apply below_drew1) | exact HB.out))) : w.heap.size ≤ gb313)); have n3_ := Aside0.mk ((by rw [hg]; exact (below_size (by repeat (first | (with_reducible first | exact HB.out | apply below_alloc | apply pw_below_drewN | apply below_drew1) | exact HB.out))) : w.heap.size ≤ gb313)); clear HB; have HB := n0_; have BK313 := n1_; have GW313 := n2_; have GE313 := n3_; clear n0_ n1_ n2_ n3_; clear hb hbox hg; have hcz5_0 : w4.cell? ⟨gb313, 0, none⟩ = some (.slice A0_0 l0_0.length c0_0) := (blk_cell BK313.out 0).trans rfl; have hcz5_1 : w4.cell? ⟨gb313, 1, none⟩ = some (.slice A0_1 l0_1.length c0_1) := (blk_cell BK313.out 1).trans rfl; have hfz5_0 := blk_frozen BK313.out 0; have hfz5_1 := blk_frozen BK313.out 1) | (go_at_call 38; (with_reducible refine (impl_IsTableau.calls k _ _ l0_0 _ _ l0_1 t314 _ ?side1 ?side2 ?side3 ?side4 A3.out).mono ?_); (case side1 => repeat (first | exact (Kd.C_below HR0_0.out HB.out) | (with_reducible refine Kd.C_alloc ?_ _) | (with_reducible refine Kd.C_drewN ?_ _) | (with_reducible refine Kd.C_drew ?_))); (case side2 => exact HC0_0.out); (case side3 => repeat (first | exact (Kd.C_below HR0_1.out HB.out) | (with_reducible refine Kd.C_alloc ?_ _) | (with_reducible refine Kd.C_drewN ?_ _) | (with_reducible refine Kd.C_drew ?_))); (case side4 => exact HC0_1.out); rintro e w6 ⟨rfl, hb⟩; have n0_ := Aside0.mk (blk_below (g := gb313) (o := .cells #[.slice A0_0 l0_0.length c0_0, .slice A0_1 l0_1.length c0_1] 28 (0, 0)) (by (with_reducible repeat (first | refine blk_drewN ?_ _ | refine blk_drew ?_ | refine blk_alloc ?_ _)); exact BK313.out) hb); have n1_ := Aside0.mk (below_step (by repeat (first | (with_reducible first | exact HB.out | apply below_alloc | apply pw_below_drewN | apply below_drew1 | refine below_set ?_ GE313.out) | exact HB.out)) hb); clear BK313; clear HB; have BK313 := n0_; have HB := n1_; clear n0_ n1_; (try clear hb); (try clear hb2); (try clear hk); (try clear hi)))
  go_ret
  exact ⟨by first | rfl | (simp [errW_none, errW_some] <;> rfl) | (simp [*, errW_none, errW_some] <;> rfl), by repeat (first | (with_reducible first | exact HB.out | apply below_alloc | apply pw_below_drewN | apply below_drew1 | refine below_set ?_ GE313.out) | exact HB.out)⟩
 ·rw [if_neg c2] at H
  have c2b0 : ((l0_0.length : Int) == 0) = false := beq_eq_false_iff_ne.mpr c2
  have c2b1 : ((l0_0.length : Int) != 0) = true := bne_iff_ne.mpr c2
  have c2b2 : ¬ (l0_0 = []) := fun h_ => c2 (by rw [h_]; rfl)
  obtain rfl := Option.some.inj H
  go_enter Try.func63, Try.ntmps63
  go_wp2_with (first | ((with_reducible refine gate_dst (N := 1) rfl ?_); refine zX (N := 1) (cs := #[.slice A0_0 l0_0.length c0_0, .slice A0_1 l0_1.length c0_1]) (t := 28) ?_; intro gb313 hg w7 hbox hb; have n0_ := Aside0.mk (below_step (by repeat (first | (with_reducible first | exact HB.out | apply below_alloc | apply pw_below_drewN | apply below_drew1) | exact HB.out)) hb); have n1_ := Aside0.mk (hbox); have n2_ := Aside0.mk ((by rw [hg]; exact (below_size (by repeat (first | (with_reducible first | exact HB.out | apply below_alloc | apply pw_below_drewN | apply below_drew1) | exact HB.out))) : w.heap.size ≤ gb313)); have n3_ := Aside0.mk ((by rw [hg]; exact (below_size (by repeat (first | (with_reducible first | exact HB.out | apply below_alloc | apply pw_below_drewN | apply below_drew1) | exact HB.out))) : w.heap.size ≤ gb313)); clear HB; have HB := n0_; have BK313 := n1_; have GW313 := n2_; have GE313 := n3_; clear n0_ n1_ n2_ n3_; clear hb hbox hg; have hcz8_0 : w7.cell? ⟨gb313, 0, none⟩ = some (.slice A0_0 l0_0.length c0_0) := (blk_cell BK313.out 0).trans rfl; have hcz8_1 : w7.cell? ⟨gb313, 1, none⟩ = some (.slice A0_1 l0_1.length c0_1) := (blk_cell BK313.out 1).trans rfl; have hfz8_0 := blk_frozen BK313.out 0; have hfz8_1 := blk_frozen BK313.out 1))
  go_ret
  exact ⟨by first | rfl | (simp [errW_none, errW_some] <;> rfl) | (simp [*, errW_none, errW_some] <;> rfl), by repeat (first | (with_reducible first | exact HB.out | apply below_alloc | apply pw_below_drewN | apply below_drew1 | refine below_set ?_ GE313.out) | exact HB.out)⟩

theorem containsFunc_pred (g : Nat) (lb : Array Value) (p : Int → Bool) (eg : ∀ args w, (callFunc g args).run Try.prog w = .ok (.enter g args) w) (A0 : Option Addr) (c0 : Nat) (l0 : List Int) (w : World)
    (hp : PredG g lb p w) (hr0 : Kd.C (Kd.int .i64) w A0 l0.length l0) :
    Calls Try.prog 103 #[.slice A0 l0.length c0, .func (.func g) #[] lb] w fun e w' => e = .returned (.bool (l0.any p)) ∧ Drawn0 w w' := by
  rw [← idxFrom_any p l0 0]
  have H := Aside0.mk (indexFunc_pred g lb p eg A0 c0 l0 w hp hr0)
  clear hp hr0
  go_enter Try.func103, Try.ntmps103
  go_wp2_with (go_at_call 87; refine H.out.mono ?_; rintro e w' ⟨rfl, hd⟩)
  go_ret
  exact ⟨by simp, hd⟩

theorem IsWord_lit (x : Int) (w : World) : Calls Try.prog 104 #[.int .i64 x] w fun e w' => e = .returned (.bool (!decide (1 ≤ x ∧ x ≤ 9))) ∧ w = w' := by
 go_enter Try.func104, Try.ntmps104
 go_wp2_with (go_at_call 64; refine (within_any _ _ _ _).mono ?_; rintro e w' ⟨rfl, rfl⟩)
 go_ret
 exact ⟨by simp, rfl⟩
def impl_IsWord.f (l0 : List Int) : Option (Bool) := some (decide (l0.length ≤ 9) && !l0.any (fun x => !decide (1 ≤ x ∧ x ≤ 9)))
theorem impl_IsWord.calls (A0 : Option Addr) (c0 : Nat) (l0 : List Int) (r : Bool) (w : World) (hr0 : Kd.C (Kd.int .i64) w A0 l0.length l0) (hc0 : l0.length ≤ c0) (h : impl_IsWord.f l0 = some r) : Calls Try.prog 91 #[.slice A0 l0.length c0] w fun e w' => e = .returned (.bool r) ∧ Drawn0 w w' := by
 obtain rfl := Option.some.inj h
 clear h
 have H := Aside0.mk (containsFunc_pred 104 #[] (fun x => !decide (1 ≤ x ∧ x ≤ 9)) (enters_of Try.func104 (by kernel_rfl) rfl) A0 c0 l0 w (fun W x _ => (IsWord_lit x W).mono fun e w' h => ⟨h.1, h.2 ▸ Drawn0.refl _⟩) hr0)
 clear hr0
 by_cases hl : l0.length ≤ 9
 ·have h2 : decide ((l0.length : Int) ≤ 9) = true := by simp; omega
  go_enter Try.func91, Try.ntmps91
  go_wp2_with (go_at_call 103; refine H.out.mono ?_; rintro e w' ⟨rfl, hd⟩)
  go_ret
  exact ⟨by simp [hl], hd⟩
 ·have h2 : decide ((l0.length : Int) ≤ 9) = false := by simp; omega
  go_enter Try.func91, Try.ntmps91
  go_wp2
  go_ret
  exact ⟨by simp [hl], Drawn0.refl _⟩

end Go.Proofs.Ytljjjdgnpnnmoaa.F
