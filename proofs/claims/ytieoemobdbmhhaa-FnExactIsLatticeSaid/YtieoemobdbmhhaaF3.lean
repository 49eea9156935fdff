/- For each Go function named below: the plain Lean function that it computes, and that its call returns just that; conditions: those that each theorem names. -/
import Derived.Test.YtieoemobdbmhhaaF0
import Derived.Test.YtieoemobdbmhhaaF1
import Derived.Test.YtieoemobdbmhhaaF2
namespace Go.Proofs.Ytieoemobdbmhhaa.F
open Go.RowKit Go.Proofs.YtieoemobdbmhhaaW.PrintWords Go.Proofs.YtieoemobdbmhhaaW.PrintLast Go.Proofs.YtieoemobdbmhhaaW.PrintMore
attribute [local go_sem] max2_int min2_int max_two min_two max_three min_three max_four min_four   -- for this text's walks alone
set_option linter.unusedVariables false
set_option linter.unusedSimpArgs false

/-! ### slices_IndexFunc_int_int: function 34 -/
/-- the first index, counted from i on, at which p holds, or -1 -/
def idxFrom (p : Int → Bool) : List Int → Nat → Int
  | [], _ => -1
  | x :: l, i => if p x then (i : Int) else idxFrom p l (i + 1)
theorem idxFrom_hit (p : Int → Bool) (l : List Int) : ∀ (n k : Nat), n < l.length → (∀ j, j < n → p (l.getD j 0) = false) → p (l.getD n 0) = true → idxFrom p l k = ((k + n : Nat) : Int) := by
  induction l with
  | nil => intro n k h; simp at h
  | cons x l ih =>
    intro n k h h1 h2
    cases n with
    | zero => simp at h2; simp [idxFrom, h2]
    | succ n =>
      have := h1 0 (by omega)
      simp at this
      simp only [idxFrom, this]
      rw [if_neg (by simp), ih n (k + 1) (by simpa using h) (fun j hj => by have := h1 (j + 1) (by omega); simpa using this) (by simpa using h2)]
      congr 1; omega
theorem idxFrom_miss (p : Int → Bool) (l : List Int) : ∀ (k : Nat), (∀ j, j < l.length → p (l.getD j 0) = false) → idxFrom p l k = -1 := by
  induction l with
  | nil => intros; rfl
  | cons x l ih =>
    intro k h
    have := h 0 (by simp)
    simp at this
    simp only [idxFrom, this]
    rw [if_neg (by simp), ih (k + 1) (fun j hj => by have := h (j + 1) (by simpa using hj); simpa using this)]
theorem idxFrom_any (p : Int → Bool) (l : List Int) : ∀ k : Nat, decide (0 ≤ idxFrom p l k) = l.any p := by
  induction l with
  | nil => intro k; rfl
  | cons x l ih =>
    intro k
    simp only [idxFrom, List.any_cons]
    by_cases h : p x = true
    · simp [h]
    · simp [h, ih (k + 1)]
theorem drawn_after {w w1 w2 : World} (h1 : Drawn0 w w1) (h2 : Drawn0 w1 w2) : Drawn0 w w2 := by
  obtain ⟨n1, rfl⟩ := h1.out
  obtain ⟨n2, rfl⟩ := h2.out
  exact ⟨⟨n1 + n2, World.drewN_drewN ..⟩⟩
/-- The function value g, with what it has captured, answers p, at each world that differs from w by draws alone. -/
def PredG (g : Nat) (lb : Array Value) (p : Int → Bool) (w : World) : Prop :=
  ∀ (W : World) (x : Int), Drawn0 w W → Calls Try.prog g (#[.int .i64 x] ++ lb) W fun e w' => e = .returned (.bool (p x)) ∧ Drawn0 W w'
set_option maxHeartbeats 2000000 in
theorem indexFunc_pred (g : Nat) (lb : Array Value) (p : Int → Bool) (eg : ∀ args w, (callFunc g args).run Try.prog w = .ok (.enter g args) w) (A0 : Option Addr) (c0 : Nat) (l0 : List Int) (w : World)
    (hp : PredG g lb p w) (hr0 : Kd.C (Kd.int .i64) w A0 l0.length l0) :
    Calls Try.prog 34 #[.slice A0 l0.length c0, .func (.func g) #[] lb] w fun e w' => e = .returned (.int .i64 (idxFrom p l0 0)) ∧ Drawn0 w w' := by
  have HR0 := Aside0.mk hr0
  have HP := Aside0.mk hp
  have hlen : l0.length ≤ 9223372036854775807 := hr0.2.1
  clear hr0 hp
  go_enter Try.func34, Try.ntmps34
  go_wp2
  go_loopg [5, 8] l0.length (fun gg _ s8 wr => ∃ kk : Nat, kk ≤ l0.length ∧ l0.length - kk ≤ gg ∧ s8 = .int .i64 kk ∧ Aside0 (Drawn0 w wr) ∧ Aside0 (∀ j, j < kk → p (l0.getD j 0) = false))
  case atStart => exact ⟨0, Nat.zero_le _, by omega, rfl, ⟨Drawn0.refl w⟩, ⟨fun j hj => absurd hj (Nat.not_lt_zero _)⟩⟩
  case round =>
    obtain ⟨kk, hkk, hg, rfl, BW, A⟩ := hrel
    by_cases hlt : kk < l0.length
    · have hltz : (kk : Int) < (l0.length : Int) := by omega
      obtain ⟨ad, e1, hx⟩ := Kd.at_int HR0.out (kk : Int) (by omega) hltz
      cases e1
      rw [Int.toNat_natCast] at hx
      replace hx := (BW.out.below.cell (World.block_lt_of_cell? w _ hx)).trans hx
      have hcall := HP.out wr (rd l0 kk) BW.out
      have B : Aside0 (rd l0 kk = l0.getD kk 0) := ⟨by unfold rd; congr 1⟩
      generalize rd l0 kk = y at hx hcall B
      cases hq : p y with
      | true =>
        have Q : Aside0 (p y = true) := ⟨hq⟩
        rw [hq] at hcall
        clear hq
        go_wp2_with (go_at_fn g; refine hcall.mono ?_; rintro e w' ⟨rfl, hb'⟩)
        go_ret
        refine ⟨?_, drawn_after BW.out hb'⟩
        rw [idxFrom_hit p l0 kk 0 hlt A.out (by rw [← B.out]; exact Q.out)]; simp
      | false =>
        have Q : Aside0 (p y = false) := ⟨hq⟩
        rw [hq] at hcall
        clear hq
        go_wp2_with (go_at_fn g; refine hcall.mono ?_; rintro e w' ⟨rfl, hb'⟩)
        go_roundg (l0.length - (kk + 1))
        case measure => omega
        case rel =>
          refine ⟨kk + 1, by omega, by omega, by go_num, ⟨drawn_after BW.out hb'⟩, ⟨fun j hj => ?_⟩⟩
          by_cases e : j = kk
          · subst e
            rw [← B.out]; exact Q.out
          · exact A.out j (by omega)
    · have hltz : ¬ (kk : Int) < (l0.length : Int) := by omega
      have : kk = l0.length := by omega
      subst this
      go_wp2
      go_ret
      refine ⟨?_, BW.out⟩
      rw [idxFrom_miss p l0 0 A.out]
      rfl

/-! ### slices_ContainsFunc_int_int: function 26 -/
theorem containsFunc_pred (g : Nat) (lb : Array Value) (p : Int → Bool) (eg : ∀ args w, (callFunc g args).run Try.prog w = .ok (.enter g args) w) (A0 : Option Addr) (c0 : Nat) (l0 : List Int) (w : World)
    (hp : PredG g lb p w) (hr0 : Kd.C (Kd.int .i64) w A0 l0.length l0) :
    Calls Try.prog 26 #[.slice A0 l0.length c0, .func (.func g) #[] lb] w fun e w' => e = .returned (.bool (l0.any p)) ∧ Drawn0 w w' := by
  rw [← idxFrom_any p l0 0]
  have H := Aside0.mk (indexFunc_pred g lb p eg A0 c0 l0 w hp hr0)
  clear hp hr0
  go_enter Try.func26, Try.ntmps26
  go_wp2_with (go_at_call 34; refine H.out.mono ?_; rintro e w' ⟨rfl, hd⟩)
  go_ret
  exact ⟨by simp, hd⟩

/-! ### impl_within: function 28 -/
def impl_within.f (a0 : Int) (a1 : Int) (a2 : Int) : Option (Bool) := some (decide (a1 ≤ a0 ∧ a0 ≤ a2))
theorem within_any (a b c : Int) (w : World) : Calls Try.prog 28 #[.int .i64 a, .int .i64 b, .int .i64 c] w fun e w' => e = .returned (.bool (decide (b ≤ a ∧ a ≤ c))) ∧ w = w' := by
  by_cases h1 : b ≤ a
  · go_enter Try.func28, Try.ntmps28
    go_wp2
    go_ret
    exact ⟨by simp [h1], rfl⟩
  · have h1' : decide (b ≤ a) = false := by simpa using h1
    go_enter Try.func28, Try.ntmps28
    go_wp2
    go_ret
    exact ⟨by simp [h1], rfl⟩
theorem impl_within.calls (a0 : Int) (a1 : Int) (a2 : Int) (r : Bool) (w : World) (h : impl_within.f a0 a1 a2 = some r) : Calls Try.prog 28 #[.int .i64 a0, .int .i64 a1, .int .i64 a2] w fun e w' => e = .returned (.bool r) ∧ Drawn0 w w' := by
  obtain rfl := Option.some.inj h
  exact (within_any a0 a1 a2 w).mono fun e w' h => ⟨h.1, h.2 ▸ Drawn0.refl _⟩

/-! ### impl_IsWord: function 11 -/
theorem IsWord_lit (x : Int) (w : World) : Calls Try.prog 27 #[.int .i64 x] w fun e w' => e = .returned (.bool (!decide (1 ≤ x ∧ x ≤ 9))) ∧ w = w' := by
  go_enter Try.func27, Try.ntmps27
  go_wp2_with (go_at_call 28; refine (within_any _ _ _ _).mono ?_; rintro e w' ⟨rfl, rfl⟩)
  go_ret
  exact ⟨by simp, rfl⟩
def impl_IsWord.f (l0 : List Int) : Option (Bool) := some (decide (l0.length ≤ 9) && !l0.any (fun x => !decide (1 ≤ x ∧ x ≤ 9)))
theorem impl_IsWord.calls (A0 : Option Addr) (c0 : Nat) (l0 : List Int) (r : Bool) (w : World) (hr0 : Kd.C (Kd.int .i64) w A0 l0.length l0) (hc0 : l0.length ≤ c0) (h : impl_IsWord.f l0 = some r) : Calls Try.prog 11 #[.slice A0 l0.length c0] w fun e w' => e = .returned (.bool r) ∧ Drawn0 w w' := by
  obtain rfl := Option.some.inj h
  clear h
  have H := Aside0.mk (containsFunc_pred 27 #[] (fun x => !decide (1 ≤ x ∧ x ≤ 9)) (enters_of Try.func27 (by kernel_rfl) rfl) A0 c0 l0 w (fun W x _ => (IsWord_lit x W).mono fun e w' h => ⟨h.1, h.2 ▸ Drawn0.refl _⟩) hr0)
  clear hr0
  by_cases hl : l0.length ≤ 9
  · have h2 : decide ((l0.length : Int) ≤ 9) = true := by simp; omega
    go_enter Try.func11, Try.ntmps11
    go_wp2_with (go_at_call 26; refine H.out.mono ?_; rintro e w' ⟨rfl, hd⟩)
    go_ret
    exact ⟨by simp [hl], hd⟩
  · have h2 : decide ((l0.length : Int) ≤ 9) = false := by simp; omega
    go_enter Try.func11, Try.ntmps11
    go_wp2
    go_ret
    exact ⟨by simp [hl], Drawn0.refl _⟩

/-! ### slices_Backward_int_int: function 30 -/
section
open Go.Shelf
attribute [local go_sem] Oper.semAt_some
/-- what slices.Backward hands out: el 0 for the last number, el 1 for the one ahead of it; the first k of them -/
def backTo {α : Type} (el : Nat → α) (k : Nat) : List α := (List.range k).map el
theorem backTo_succ {α : Type} (el : Nat → α) (k : Nat) : backTo el (k + 1) = backTo el k ++ [el k] := by simp [backTo, List.range_succ]
theorem backTo_length {α : Type} (el : Nat → α) (k : Nat) : (backTo el k).length = k := by simp [backTo]
/-- what a round of such a loop leaves as it was: what lay ahead of the call, and the iterator's own variable -/
def BackKeeps (n₀ Bs : Nat) (A B : World) : Prop := Below n₀ A B ∧ (Bs < A.heap.size → B.heap[Bs]? = A.heap[Bs]?) ∧ A.heap.size ≤ B.heap.size
theorem backKeeps_refl (n₀ Bs : Nat) (A : World) : BackKeeps n₀ Bs A A := ⟨Below.refl _ _, fun _ => rfl, Nat.le_refl _⟩
theorem backKeeps_t {n₀ Bs : Nat} {A B C : World} (h : BackKeeps n₀ Bs A B) (k : BackKeeps n₀ Bs B C) : BackKeeps n₀ Bs A C :=
  ⟨h.1.trans k.1, fun hl => (k.2.1 (Nat.lt_of_lt_of_le hl h.2.2)).trans (h.2.1 hl), Nat.le_trans h.2.2 k.2.2⟩
theorem backKeeps_b {n₀ Bs : Nat} {w : World} (hn : n₀ ≤ w.heap.size) (hb : Bs < w.heap.size) (W : World) (l : Nat) (o o' : Obj) (hl : w.heap.size ≤ l) (h : W.heap[l]? = some o) (_ : o.isCells = false) (_ : o.isWalk = false) : BackKeeps n₀ Bs W (W.putObj l o') := by
  have g := grownBy_putObj' W l o'
  refine ⟨(Below.refl n₀ W).grown g (by have := (Array.getElem?_eq_some_iff.1 h).1; omega) (fun k e => by cases e; omega), fun hlt => g.block Bs hlt (fun e => by cases e; omega), g.size⟩
set_option maxRecDepth 100000 in
set_option maxHeartbeats 2000000 in
theorem back1_in {α : Type} (encs : α → Array Value) (el : Nat → α) (F : Fence) (n : Nat) (hf : F.fn 35) (hro : F.round = none) (hn : 1 ≤ n) (l Bs n₀ : Nat) (A : Option Addr) (cap : Nat) (zs : List Int) (W0 : World) (hn0 : n₀ = W0.heap.size) (hC : Kd.C (Kd.int .i64) W0 A zs.length zs) (hel : ∀ k, k < zs.length → encs (el k) = #[.int .i64 ((zs.length - 1 - k : Nat) : Int), .int .i64 (rd zs ((zs.length - 1 - k : Nat) : Int))]) (J Jx : List α → World → Prop)
    (hY : ∀ pre x W, J pre W → pre.length < zs.length → YieldAt F (n - 1) Try.prog l (encs x) W fun e W' =>
      (e = .returned (.bool true) ∧ J (pre ++ [x]) W' ∧ BackKeeps n₀ Bs W W') ∨ (e = .returned (.bool false) ∧ Jx (pre ++ [x]) W'))
    (W : World) (hW : Below n₀ W0 W) (hBs : W.heap[Bs]? = some (.cells #[.slice A zs.length cap] 22 (0, 0))) (h0 : J [] W) :
    CallsIn F n Try.prog 35 #[.func (.yield l) #[] #[], .pointer (some ⟨Bs, 0, none⟩)] W fun e W' => (∃ v, e = .returned v) ∧
      ((∃ ys, ys = backTo el zs.length ∧ J ys W') ∨ (∃ pre, (∃ k, k ≤ zs.length ∧ pre = backTo el k) ∧ Jx pre W')) := by
  have hlen : zs.length ≤ 9223372036854775807 := hC.2.1
  have HC := Aside0.mk hC
  clear hC
  refine callsIn_of_wp Try.func35 rfl hf ?_ hro
  simp only [Try.ntmps35, List.size_toArray, List.length_cons, List.length_nil, Nat.reduceAdd, Nat.reduceSub, Array.replicate_succ, Array.replicate_zero, List.push_toArray, List.append_toArray, List.nil_append, List.cons_append]
  have hz0 : W.cell? ⟨Bs, 0, none⟩ = some (.slice A zs.length cap) := (blk_cell hBs 0).trans rfl
  gi_wp2
  gi_loopw [3] (fun i wr => ∃ k : Nat, k ≤ zs.length ∧ i = .int .i64 ((zs.length : Int) - 1 - (k : Int)) ∧ J (backTo el k) wr ∧ BackKeeps n₀ Bs W wr)
    (fun i _ => (intOf i + 1).toNat)
  case atStart => exact ⟨0, Nat.zero_le _, by go_num, h0, backKeeps_refl _ _ _⟩
  case round =>
    obtain ⟨k, hk, rfl, hJs, hnx⟩ := hrel
    have hzr : wr.cell? ⟨Bs, 0, none⟩ = some (.slice A zs.length cap) := (blk_cell ((hnx.2.1 (blk_lt hBs)).trans hBs) 0).trans rfl
    by_cases hlt : k < zs.length
    · have hge : (0 : Int) ≤ (zs.length : Int) - 1 - (k : Int) := by omega
      have hub : (zs.length : Int) - 1 - (k : Int) < (zs.length : Int) := by omega
      obtain ⟨ad, rfl, hx⟩ := Kd.at_int (Kd.C_below HC.out (by have := hW.trans hnx.1; rw [hn0] at this; exact this)) ((zs.length : Int) - 1 - (k : Int)) hge hub
      have ei : ((zs.length : Int) - 1 - (k : Int)) = ((zs.length - 1 - k : Nat) : Int) := by omega
      have hYk := hY _ (el k) wr hJs (by rw [backTo_length]; exact hlt)
      rw [hel k hlt] at hYk
      obtain ⟨fn, tmps, assign, body, hy, hR⟩ := hYk
      have et : ((zs.length : Int) - 1 - (k : Int)).toNat = zs.length - 1 - k := by omega
      rw [et] at hx
      gi_wp2
      refine hR.mono ?_
      rintro e W3 (⟨rfl, hJ3, hk3⟩ | ⟨rfl, hJx3⟩)
      · gi_wp2
        go_roundw
        case rel => exact ⟨k + 1, by omega, by go_num, by rw [backTo_succ]; exact hJ3, backKeeps_t hnx hk3⟩
        case measure => simp [intOf]; omega
      · gi_wp2
        refine bodyPost_ret (results_none rfl _ _ _) rfl ?_
        exact ⟨⟨_, rfl⟩, .inr ⟨_, ⟨k + 1, by omega, by rw [backTo_succ]⟩, hJx3⟩⟩
    · obtain rfl : k = zs.length := by omega
      have hneg : ¬ (0 : Int) ≤ (zs.length : Int) - 1 - (zs.length : Int) := by omega
      gi_wp2
      go_end0
      first | exact ⟨⟨_, rfl⟩, .inl ⟨_, rfl, hJs⟩⟩ | exact ⟨⟨_, rfl⟩, .inl hJs⟩
set_option maxHeartbeats 1000000 in
/-- slices.Backward(s): the slice value is boxed; the function value captures the box. -/
theorem back_in (F : Fence) (n : Nat) (hf : F.fn 30) (hro : F.round = none) (A : Option Addr) (len cap : Nat) (w : World) :
    CallsIn F n Try.prog 30 #[.slice A len cap] w fun e w' => e = .returned (.func (.func 35) #[] #[.pointer (some ⟨w.heap.size, 0, none⟩)]) ∧ w' = w.alloc (.cells #[.slice A len cap] 22 (0, 0)) := by
  refine callsIn_of_wp Try.func30 rfl hf ?_ hro
  simp only [Try.ntmps30, List.size_toArray, List.length_cons, List.length_nil, Nat.reduceAdd, Nat.reduceSub, Array.replicate_succ, Array.replicate_zero, List.push_toArray, List.append_toArray, List.nil_append, List.cons_append]
  gi_wp2
  go_ret
  exact ⟨rfl, rfl⟩
/-- slices.Backward(s) hands back a value that gives the pairs of indices and numbers from the last one on. -/
theorem back_stops {α : Type} (encs : α → Array Value) (el : Nat → α) (F : Fence) (n : Nat) (hf : F.fn 35) (hro : F.round = none) (hn : 1 ≤ n) (Bs n₀ : Nat) (A : Option Addr) (cap : Nat) (zs : List Int) (W0 w : World) (hn0 : n₀ = W0.heap.size) (hC : Kd.C (Kd.int .i64) W0 A zs.length zs)
    (hel : ∀ k, k < zs.length → encs (el k) = #[.int .i64 ((zs.length - 1 - k : Nat) : Int), .int .i64 (rd zs ((zs.length - 1 - k : Nat) : Int))]) (hW : Below n₀ W0 w) (hnw : n₀ ≤ w.heap.size)
    (hBs : w.heap[Bs]? = some (.cells #[.slice A zs.length cap] 22 (0, 0))) :
    SeqStopsK F n Try.prog 35 #[.pointer (some ⟨Bs, 0, none⟩)] encs (BackKeeps n₀ Bs) (fun ys => ys = backTo el zs.length)
      (fun pre => ∃ k, k ≤ zs.length ∧ pre = backTo el k) zs.length w := fun l J Jx W hWW _ _ hY h0 =>
  back1_in encs el F n hf hro hn l Bs n₀ A cap zs W0 hn0 hC hel J Jx hY W (hW.trans (hWW.mono hnw)) ((hWW.block Bs (blk_lt hBs)).trans hBs) h0
end

/-! ### impl_IsLattice: function 18 -/
section
open Go.Shelf
attribute [local go_sem] Oper.semAt_some
/-- a region that only reads, inside a round of a loop over an iterator: one walk of the text's order -/
theorem wpIn_of_quiet_nd {F : Fence} {n : Nat} {P : Program} {C : World → Prop} {o : Oper} {a : Act} {K : Act → Prop} {K' : Act → World → Prop} {Q' : Exit → Act → World → Prop} {w : World} (hnd : ∀ c, o.op ≠ .defer c) (hw : C w) (h : ∀ a w', C w' → K a → K' a w')
    (ha : o.askedIn F P a C) (hh : o.quietIn F n P a C K) : o.wpIn F n P a w K' Q' := by
  obtain ⟨v, h1, h2⟩ := hh
  have h3 := h1 w hw
  unfold Oper.quietAtIn at h3
  unfold Oper.wpIn
  refine ⟨ha w hw, ?_⟩
  rw [Oper.semAt_eq _ _ _ hnd]
  generalize (execOp a.eval o).run P w = r at *
  cases r with
  | ok x w' =>
    cases x <;> simp only [Oper.quietUponIn] at h3 <;> simp only [Oper.uponIn]
    case value u =>
      obtain ⟨e1, e2⟩ := h3
      rw [e1, e2]
      exact h _ _ hw h2
    case skip =>
      obtain ⟨e1, e2⟩ := h3
      rw [e1, ← e2]
      exact h _ _ hw h2
    case enter f args =>
      obtain ⟨e1, hd, hc⟩ := h3
      rw [e1]
      exact ⟨hd, hc.mono fun e w'' ⟨he, hw''⟩ => by subst he; exact h _ _ hw'' h2⟩
  | halt x w' => simp only [Oper.quietUponIn] at h3
theorem wpOpIn_of_qOpIn_nd {F : Fence} {n : Nat} {P : Program} {ops : Array Oper} {C : World → Prop} (hnd : ∀ o ∈ ops, ∀ c, o.op ≠ .defer c) {i : Nat} {a : Act} {K : Act → Prop} {K' : Act → World → Prop} {Q' : Exit → Act → World → Prop} {w : World} (hC : C w) (h : ∀ a w', C w' → K a → K' a w')
    (hh : qOpIn F n P ops C i K a) : wpOpIn F n P ops Q' i K' a w := by
  unfold qOpIn at hh
  unfold wpOpIn
  split
  · rename_i ho; simp only [ho] at hh; exact h _ _ hC hh
  · rename_i o ho
    simp only [ho] at hh
    obtain ⟨ha, hh⟩ := hh
    split
    · rename_i hw; simp only [hw, if_true] at hh; exact wpIn_of_quiet_nd (hnd o (Array.mem_of_getElem? ho)) hC h ha hh
    · rename_i hw; simp only [hw] at hh; exact ⟨ha w hC, h _ _ hC hh⟩
theorem wpAnyIn_of_quiet_nd {F : Fence} {n : Nat} {P : Program} {ops : Array Oper} {md : Region.Mode} {C : World → Prop} (hnd : ∀ o ∈ ops, ∀ c, o.op ≠ .defer c) {Q : Act → Prop} {Q' : Exit → Act → World → Prop} (hQ : ∀ a w, C w → Q a → Q' .normal a w) : ∀ (fuel : Nat) (listed : Array Bool) (a : Act) (w : World), C w →
    wpAnyQIn F n P md ops C Q fuel listed a → wpAnyIn F n P md ops Q' fuel listed a w
  | 0, _, _, _, hw, h => ⟨h.1, hQ _ _ hw h.2⟩
  | fuel + 1, _, _, _, hw, h => ⟨fun h0 => hQ _ _ hw (h.1 h0), fun i hi => wpOpIn_of_qOpIn_nd hnd hw (fun a' w' hw' => wpAnyIn_of_quiet_nd hnd hQ fuel _ a' w' hw') (h.2 i hi)⟩
theorem wpIn_region_quiet_nd {F : Fence} {n : Nat} {P : Program} {id : Nat} {Q : Exit → Act → World → Prop} {a : Act} {w : World} {l : List Oper} (hm : P.follows .mixedOrders = true) (hB : Region.lexB .any l.toArray = true) (hnd : ∀ o ∈ l, ∀ c, o.op ≠ .defer c)
    (h : wpQuietIn F n P l.toArray (fun w' => ∃ n, w' = w.drewN n) (fun a' => ∀ w', (∃ n, w' = w.drewN n) → Q .normal a' w') l a) : (Code.region id l.toArray true).wpIn F n P Q a w := by
  simp only [Region.lexB, Bool.and_eq_true] at hB
  refine wpIn_region_any hm (wpAnyIn_of_quiet_nd (Q := fun a' => ∀ w', (∃ n, w' = w.drewN n) → Q .normal a' w') (by simpa using hnd) (fun _ w' hw' h => h w' hw') _ _ _ _ ⟨1, rfl⟩ ?_)
  have := wpAnyQIn_lex (F := F) (n := n) (C := fun w' => ∃ n, w' = w.drewN n) (md := .any) hB.1 l 0 (Array.replicate l.toArray.size false) a (by simp) (by simpa using hB.2) h
  simpa using this
theorem below_drewN' {B : Nat} {a w : World} (h : Below B a w) (n : Nat) : Below B a (w.drewN n) := h.trans ⟨rfl, rfl, rfl, Nat.le_refl _, fun _ _ => rfl⟩
theorem kept_drewN {W W' : World} (h : KeepsOthers W W') (n : Nat) : KeepsOthers W (W'.drewN n) := ⟨h.size, h.same⟩
open BigFrame
/-- one more number: none where it then is more frequent than the number ahead of it -/
def latStep (cs : List Int) (n : Int) : Option (List Int) := if 1 < n ∧ rd (cs.set n.toNat (wrap64 (rd cs n + 1))) (n - 1) < rd (cs.set n.toNat (wrap64 (rd cs n + 1))) n then none else some (cs.set n.toNat (wrap64 (rd cs n + 1)))
def latRun (cs : List Int) : List Int → Option (List Int)
  | [] => some cs
  | n :: l => (latStep cs n).bind fun c => latRun c l
theorem latRun_append (l : List Int) : ∀ (cs : List Int) (l' : List Int), latRun cs (l ++ l') = (latRun cs l).bind fun c => latRun c l' := by
  induction l with
  | nil => intro cs l'; rfl
  | cons n l ih =>
    intro cs l'
    simp only [List.cons_append, latRun]
    cases latStep cs n with
    | none => rfl
    | some c => simp only [Option.bind_some]; exact ih c l'
theorem latRun_snoc (l : List Int) (cs : List Int) (n : Int) : latRun cs (l ++ [n]) = (latRun cs l).bind fun c => latStep c n := by
  rw [latRun_append]
  congr 1
  funext c
  simp only [latRun]
  cases latStep c n <;> rfl
abbrev Let9 := { x : Nat × Int // 1 ≤ x.2 ∧ x.2 ≤ 9 }
def latEl (zs : List Int) (k : Nat) : Let9 := if h : 1 ≤ rd zs ((zs.length - 1 - k : Nat) : Int) ∧ rd zs ((zs.length - 1 - k : Nat) : Int) ≤ 9 then ⟨(zs.length - 1 - k, rd zs ((zs.length - 1 - k : Nat) : Int)), h⟩ else ⟨(0, 1), by decide⟩
theorem latEl_enc {zs : List Int} (h : ∀ z ∈ zs, 1 ≤ z ∧ z ≤ 9) (k : Nat) (hk : k < zs.length) : (latEl zs k).1 = (zs.length - 1 - k, rd zs ((zs.length - 1 - k : Nat) : Int)) := by
  unfold latEl
  have hlt : zs.length - 1 - k < zs.length := by omega
  have e : rd zs ((zs.length - 1 - k : Nat) : Int) = zs[zs.length - 1 - k] := by unfold rd; rw [Int.toNat_natCast, List.getD_eq_getElem?_getD, List.getElem?_eq_getElem hlt]; rfl
  rw [dif_pos (by rw [e]; exact h _ (List.getElem_mem hlt))]
theorem lat_came {zs : List Int} (h : ∀ z ∈ zs, 1 ≤ z ∧ z ≤ 9) : ∀ k, k ≤ zs.length → (backTo (latEl zs) k).map (fun x => x.1.2) = zs.reverse.take k
  | 0, _ => by simp [backTo]
  | k + 1, hk => by
    have hlt : zs.length - 1 - k < zs.length := by omega
    have e : rd zs ((zs.length - 1 - k : Nat) : Int) = zs[zs.length - 1 - k] := by unfold rd; rw [Int.toNat_natCast, List.getD_eq_getElem?_getD, List.getElem?_eq_getElem hlt]; rfl
    rw [backTo_succ, List.map_append, lat_came h k (by omega), List.take_succ_eq_append_getElem (by rw [List.length_reverse]; omega), List.getElem_reverse]
    simp only [List.map_cons, List.map_nil]
    rw [latEl_enc h k (by omega), e]
def cellsOf (cs : List Int) : Array Value := (cs.map fun n => Value.int .i64 n).toArray
theorem cellsOf_at (cs : List Int) (i : Nat) (h : i < cs.length) : (cellsOf cs)[i]? = some (.int .i64 (rd cs (i : Int))) := by
  have e : rd cs (i : Int) = cs[i] := by unfold rd; rw [Int.toNat_natCast, List.getD_eq_getElem?_getD, List.getElem?_eq_getElem h]; rfl
  rw [e]; simp [cellsOf, h]
theorem madeCells_zeros (n : Nat) : madeCells #[Value.int .i64 0] n = cellsOf (List.replicate n 0) := by
  apply Array.ext <;> simp [madeCells, cellsOf, Nat.mod_one]
theorem cellsOf_set (cs : List Int) (i : Nat) (n : Int) : (cellsOf cs).setIfInBounds i (.int .i64 n) = cellsOf (cs.set i n) := by
  simp [cellsOf, List.map_set]
theorem blk_keptOn {W W' : World} {row : Option Nat} {b t : Nat} {cs : Array Value} (h : W.heap[b]? = some (.cells cs t (0, 0))) (hg : W.grownBy W' row) (hr : ∀ r, row = some r → ∃ o : Obj, W.heap[r]? = some o ∧ o.isCells = false) : W'.heap[b]? = some (.cells cs t (0, 0)) :=
  (grownBy_keeps_cells hg hr h rfl).trans h
def lat0 : List Int := List.replicate 10 0
def impl_IsLattice.f (l0 : List Int) : Option (Bool) := (impl_IsWord.f l0).bind fun b => some (b && (latRun lat0 l0.reverse).isSome)
set_option maxHeartbeats 4000000 in
set_option maxRecDepth 100000 in
theorem isLattice_in (A0 : Option Addr) (c0 : Nat) (l0 : List Int) (w : World) (hr0 : Kd.C (Kd.int .i64) w A0 l0.length l0) (hc0 : l0.length ≤ c0) (hw : impl_IsWord.f l0 = some true) (h9 : ∀ z ∈ l0, 1 ≤ z ∧ z ≤ 9) :
    CallsIn Fence.wide 3 Try.prog 18 #[.slice A0 l0.length c0] w fun e w' => e = .returned (.bool (latRun lat0 l0.reverse).isSome) ∧ Below w.heap.size w w' := by
  have HR := Aside0.mk hr0
  have HC := Aside0.mk hc0
  have HW := Aside0.mk hw
  have H9 := Aside0.mk h9
  clear hr0 hc0 hw h9
  refine callsIn_of_wp_marks Try.func18 rfl trivial ?_ rfl
  simp only [Try.ntmps18, List.size_toArray, List.length_cons, List.length_nil, Nat.reduceAdd, Nat.reduceSub, Array.replicate_succ, Array.replicate_zero, List.push_toArray, List.append_toArray, List.nil_append, List.cons_append]
  have hmk : ∀ W : World, (Instr.makeSlice 22 (.int .i64 10) (.int .i64 10)).run Try.prog W = .ok (.slice (some ⟨W.heap.size, 0, none⟩) 10 10) (W.alloc (.cells (cellsOf lat0) 3 (0, 0))) := fun W => by
    have h := run_make_row' (P := Try.prog) 22 3 (.int .i64 0) 8 Try.underlying22 info3 rfl .i64 .i64 10 (by decide) (by decide) W
    have e : madeCells #[Value.int .i64 0] 10 = cellsOf lat0 := madeCells_zeros 10
    rw [e] at h
    exact h
  gi_wp2_with (first
    | (gi_at_call 11; refine (callsIn_wide.2 (impl_IsWord.calls A0 c0 l0 true (w.alloc (.cells #[.bool false] 4 (0, 0))) (Kd.C_alloc HR.out _) HC.out HW.out)).mono ?_; rintro e w6 ⟨rfl, hd⟩; have D6 := Aside0.mk hd; clear hd)
    | (refine ⟨trivial, ?_⟩; gi_at_call 11; refine (callsIn_wide.2 (impl_IsWord.calls A0 c0 l0 true (w.alloc (.cells #[.bool false] 4 (0, 0))) (Kd.C_alloc HR.out _) HC.out HW.out)).mono ?_; rintro e w6 ⟨rfl, hd⟩; have D6 := Aside0.mk hd; clear hd)
    | (refine ⟨trivial, ?_⟩; gi_at_call 30; refine (back_in Fence.wide 2 trivial rfl _ _ _ _).mono ?_; rintro e w7 ⟨rfl, rfl⟩))
  obtain ⟨N, hN⟩ : ∃ N, N = w.heap.size := ⟨_, rfl⟩
  have e6 : w6.heap = (w.alloc (.cells #[.bool false] 4 (0, 0))).heap := by obtain ⟨k, rfl⟩ := D6.out; rfl
  have s6 : w6.heap.size = N + 1 := by rw [e6, World.size_alloc, hN]
  have b6 : Below N w w6 := by
    have h1 := D6.out
    obtain ⟨k, rfl⟩ := h1
    rw [hN]
    exact ((Below.refl _ w).alloc (Nat.le_refl _) _).trans ⟨rfl, rfl, rfl, Nat.le_refl _, fun _ _ => rfl⟩
  have h62 : w6.heap[N]? = some (.cells #[.bool false] 4 (0, 0)) := by rw [e6, hN]; exact World.alloc_heap_new w _
  rw [← hN, s6]
  obtain ⟨WA, hWA⟩ : ∃ WA, WA = w6.alloc (.cells (cellsOf lat0) 3 (0, 0)) := ⟨_, rfl⟩
  rw [← hWA]
  obtain ⟨WB, hWB⟩ : ∃ WB, WB = WA.alloc (.cells #[.slice (some ⟨N + 1, 0, none⟩) 10 10] 22 (0, 0)) := ⟨_, rfl⟩
  rw [← hWB]
  obtain ⟨W0, hW0⟩ : ∃ W0, W0 = WB.alloc (.cells #[.slice A0 l0.length c0] 22 (0, 0)) := ⟨_, rfl⟩
  rw [← hW0]
  have sA : WA.heap.size = N + 2 := by rw [hWA, World.size_alloc, s6]
  have sB : WB.heap.size = N + 3 := by rw [hWB, World.size_alloc, sA]
  have s0 : W0.heap.size = N + 4 := by rw [hW0, World.size_alloc, sB]
  have hmA : WA.heap[N + 1]? = some (.cells (cellsOf lat0) 3 (0, 0)) := by rw [hWA, ← s6]; exact World.alloc_heap_new w6 _
  have h3B : WB.heap[N + 2]? = some (.cells #[.slice (some ⟨N + 1, 0, none⟩) 10 10] 22 (0, 0)) := by rw [hWB, ← sA]; exact World.alloc_heap_new WA _
  have hs0 : W0.heap[N + 3]? = some (.cells #[.slice A0 l0.length c0] 22 (0, 0)) := by rw [hW0, ← sB]; exact World.alloc_heap_new WB _
  have h30 : W0.heap[N + 2]? = some (.cells #[.slice (some ⟨N + 1, 0, none⟩) 10 10] 22 (0, 0)) := by rw [hW0]; exact (Below.heap_alloc _ _ _ (by omega)).trans h3B
  have hm0 : W0.heap[N + 1]? = some (.cells (cellsOf lat0) 3 (0, 0)) := by rw [hW0, hWB]; exact (Below.heap_alloc _ _ _ (by rw [← hWB]; omega)).trans ((Below.heap_alloc _ _ _ (by omega)).trans hmA)
  have h20 : W0.heap[N]? = some (.cells #[.bool false] 4 (0, 0)) := by rw [hW0, hWB, hWA]; exact (Below.heap_alloc _ _ _ (by rw [← hWA, ← hWB]; omega)).trans ((Below.heap_alloc _ _ _ (by rw [← hWA]; omega)).trans ((Below.heap_alloc _ _ _ (by omega)).trans h62))
  have hB0 : Below N w W0 := by rw [hW0, hWB, hWA]; exact ((b6.alloc (by omega) _).alloc (by rw [← hWA]; omega) _).alloc (by rw [← hWA, ← hWB]; omega) _
  refine wpIn_rangeFunc_ownF rfl (by decide) (gf := 35) (lb := #[.pointer (some ⟨N + 3, 0, none⟩)]) rfl trivial (enters_of Try.func35 (by kernel_rfl) rfl)
    (back_stops (fun x : Let9 => #[.int .i64 (x.1.1 : Int), .int .i64 x.1.2]) (latEl l0) Fence.wide 2 trivial rfl (by decide) (N + 3) N A0 c0 l0 w W0 hN HR.out (fun k hk => by simp only [latEl_enc H9.out k hk]) hB0 (by omega) hs0)
    backKeeps_t (backKeeps_b (by omega) (by omega)) (Below.refl _ _) (fun _ => rfl)
    (fun pre W => (∃ cs, latRun lat0 (pre.map fun x => x.1.2) = some cs ∧ cs.length = 10 ∧ W.heap[N + 1]? = some (.cells (cellsOf cs) 3 (0, 0)) ∧ W.heap[N + 2]? = some (.cells #[.slice (some ⟨N + 1, 0, none⟩) 10 10] 22 (0, 0)) ∧ W.heap[N]? = some (.cells #[.bool false] 4 (0, 0))) ∧ Below N w W)
    (fun c pre W => (c = .ret ∧ latRun lat0 (pre.map fun x => x.1.2) = none ∧ W.heap[N]? = some (.cells #[.bool false] 4 (0, 0))) ∧ Below N w W)
    (OwnFrom.and (Own.from (fun s A B row hs hg hr => by
      obtain ⟨cs, h1, h2, h3, h4, h5⟩ := hs
      exact ⟨cs, h1, h2, blk_keptOn h3 hg hr, blk_keptOn h4 hg hr, blk_keptOn h5 hg hr⟩) _) (ownFrom_below (by omega) (by omega)))
    (fun c => OwnFrom.and (Own.from (fun s A B row hs hg hr => ⟨hs.1, hs.2.1, blk_keptOn hs.2.2 hg hr⟩) _) (ownFrom_below (by omega) (by omega)))
    ⟨⟨lat0, rfl, rfl, hm0, h30, h20⟩, hB0⟩
    (fun x => { tmps := #[.slice A0 l0.length c0, undef, .pointer (some ⟨N, 0, none⟩), .pointer (some ⟨N + 1 + 1, 0, none⟩), undef, .int .i64 x.1.2, .slice A0 l0.length c0, .bool true, .bool false, .slice (some ⟨N + 1, 0, none⟩) 10 10, .slice A0 l0.length c0, .func (.func 35) #[] #[.pointer (some ⟨N + 1 + 1 + 1, 0, none⟩)], .int .i64 (x.1.1 : Int), .int .i64 x.1.2, undef, undef, undef, undef, undef, undef, undef, undef, undef, undef, undef, undef, undef, undef, undef, undef, undef, undef, undef, undef], defers := [] }) ?assign ?body ?done ?stop
  case assign =>
    intro l x W K hK
    clear hN
    gi_wp2
    exact hK
  case body =>
    rintro l pre ⟨⟨i, n⟩, hn1, hn9⟩ W ⟨⟨cs, hrun, hlen, hm, h3, h2⟩, hB⟩ _
    simp only at hn1 hn9
    clear hN s6 e6 hWA hWB hW0 sA sB s0 hmA h3B hs0 h30 hm0 h20 hB0 b6 h62 hmk
    have hc3 : W.cell? ⟨N + 1 + 1, 0, none⟩ = some (.slice (some ⟨N + 1, 0, none⟩) 10 10) := (blk_cell h3 0).trans rfl
    have hcn : W.cell? ⟨N + 1, n.toNat, none⟩ = some (.int .i64 (rd cs n)) := by
      have := (blk_cell hm n.toNat).trans (cellsOf_at cs n.toNat (by omega))
      rwa [Int.toNat_of_nonneg (by omega)] at this
    have hn0 : (0 : Int) ≤ n := by omega
    have hn10 : n < 10 := by omega
    have hfr : W.frozen? ⟨N + 1, n.toNat, none⟩ = false := blk_frozen hm n.toNat
    gi_wp2
    obtain ⟨W', hW'⟩ : ∃ W', W' = W.setCell ⟨N + 1, n.toNat, none⟩ (.int .i64 (wrap64 (rd cs n + 1))) := ⟨_, rfl⟩
    rw [← hW']
    obtain ⟨cs', hcs'⟩ : ∃ cs', cs' = cs.set n.toNat (wrap64 (rd cs n + 1)) := ⟨_, rfl⟩
    have hm' : W'.heap[N + 1]? = some (.cells (cellsOf cs') 3 (0, 0)) := by
      have h := blk_set hm n.toNat (.int .i64 (wrap64 (rd cs n + 1)))
      rw [cellsOf_set, ← hcs'] at h
      rw [hW']; exact h
    have ho' : ∀ k, k ≠ N + 1 → W'.heap[k]? = W.heap[k]? := fun k hk => by rw [hW']; exact Below.heap_setCell _ _ _ _ hk
    have hB' : Below N w W' := by rw [hW']; exact hB.setCell (p := ⟨N + 1, n.toNat, none⟩) (Nat.le_succ N) _
    have hK' : BackKeeps N (N + 3) W W' := by
      refine ⟨by rw [hW']; exact (Below.refl N W).setCell (p := ⟨N + 1, n.toNat, none⟩) (Nat.le_succ N) _, fun _ => ho' _ (by omega), by rw [hW']; simp [World.setCell]⟩
    have hO' : KeepsOthers W W' := by rw [hW']; exact KeepsOthers.setCell _ _ _
    have h3' := (ho' (N + 2) (by omega)).trans h3
    have h2' := (ho' N (by omega)).trans h2
    have hl' : cs'.length = 10 := by rw [hcs', List.length_set]; exact hlen
    have hrun' : latRun lat0 ((pre ++ [(⟨(i, n), hn1, hn9⟩ : Let9)]).map fun x : Let9 => x.1.2) = latStep cs n := by
      rw [List.map_append, List.map_cons, List.map_nil, latRun_snoc, hrun]; rfl
    clear hW' hcn hfr hc3 hm h3 h2 hB
    have hc3 : W'.cell? ⟨N + 1 + 1, 0, none⟩ = some (.slice (some ⟨N + 1, 0, none⟩) 10 10) := (blk_cell h3' 0).trans rfl
    have hcn : W'.cell? ⟨N + 1, n.toNat, none⟩ = some (.int .i64 (rd cs' n)) := by
      have := (blk_cell hm' n.toNat).trans (cellsOf_at cs' n.toNat (by omega))
      rwa [Int.toNat_of_nonneg (by omega)] at this
    have hcm : W'.cell? ⟨N + 1, n.toNat - 1, none⟩ = some (.int .i64 (rd cs' (n - 1))) := by
      have h := (blk_cell hm' (n.toNat - 1)).trans (cellsOf_at cs' (n.toNat - 1) (by omega))
      have e : ((n.toNat - 1 : Nat) : Int) = n - 1 := by omega
      rwa [e] at h
    have HCS := Aside0.mk hcs'
    have HRUN := Aside0.mk hrun'
    have HM := Aside0.mk hm'
    have HH3 := Aside0.mk h3'
    have HH2 := Aside0.mk h2'
    clear hcs' hrun' hm' h3'
    by_cases hg : 1 < n
    · have hd : decide (1 < n) = true := by simpa using hg
      have hm0 : (0 : Int) ≤ n - 1 := by omega
      have hm10 : n - 1 < 10 := by omega
      have hwr : IntKind.i64.wrap (n - 1) = n - 1 := IntWalk.i64_in _ (by omega)
      refine wpIn_region_quiet_nd (by kernel_rfl) (by kernel_rfl) (by simp) ?_; (repeat (gi_big_quiet_step (fail))); refine wpQuietIn_nil ?_; intro _ hw'; obtain ⟨nq, hw''⟩ := hw'; subst hw''
      by_cases hbig : rd cs' (n - 1) < rd cs' n
      · have hdb : decide (rd cs' (n - 1) < rd cs' n) = true := by simpa using hbig
        have h2n : W'.cell? ⟨N, 0, none⟩ = some (.bool false) := (blk_cell h2' 0).trans rfl
        have hfn : W'.frozen? ⟨N, 0, none⟩ = false := blk_frozen h2' 0
        gi_wp2
        refine ⟨(kept_drewN hO' nq).trans (KeepsOthers.setCell _ _ _), ⟨rfl, ?_, blk_put (show (W'.drewN nq).heap[N]? = some (.cells #[.bool false] 4 (0, 0)) from HH2.out) 0 (.bool false) rfl⟩, (below_drewN' hB' nq).setCell (p := ⟨N, 0, none⟩) (Nat.le_refl N) _⟩
        refine HRUN.out.trans ?_
        have e := HCS.out
        subst e
        exact if_pos ⟨hg, hbig⟩
      · have hdb : decide (rd cs' (n - 1) < rd cs' n) = false := by simpa using hbig
        gi_wp2
        refine ⟨kept_drewN hO' nq, ⟨below_drewN' hK'.1 nq, hK'.2⟩, ⟨cs', ?_, hl', HM.out, HH3.out, HH2.out⟩, below_drewN' hB' nq⟩
        refine HRUN.out.trans ?_
        have e := HCS.out
        subst e
        exact if_neg (fun h => absurd h.2 (by omega))
    · have hd : decide (1 < n) = false := by simpa using hg
      refine wpIn_region_quiet_nd (by kernel_rfl) (by kernel_rfl) (by simp) ?_; (repeat (gi_big_quiet_step (fail))); refine wpQuietIn_nil ?_; intro _ hw'; obtain ⟨nq, hw''⟩ := hw'; subst hw''
      gi_wp2
      refine ⟨kept_drewN hO' nq, ⟨below_drewN' hK'.1 nq, hK'.2⟩, ⟨cs', ?_, hl', HM.out, HH3.out, HH2.out⟩, below_drewN' hB' nq⟩
      refine HRUN.out.trans ?_
      have e := HCS.out
      subst e
      exact if_neg (fun h => absurd h.1 (by omega))
  case done =>
    rintro D ys W hD hys ⟨⟨cs, hrun, hlen, hm, h3, h2⟩, hB⟩ hK
    have hres : (latRun lat0 l0.reverse).isSome = true := by
      rw [hys, lat_came H9.out l0.length (Nat.le_refl _), List.take_of_length_le (by rw [List.length_reverse]; exact Nat.le_refl _)] at hrun
      rw [hrun]; rfl
    have HN := Aside0.mk hN
    have HRES := Aside0.mk hres
    have HD := Aside0.mk hD
    have HS0 := Aside0.mk s0
    clear hN hres hD s6 e6 hWA hWB hW0 sA sB s0 hmA h3B hs0 h30 hm0 h20 hB0 b6 h62 hmk hrun hm h3 hlen hys
    have h2n : W.cell? ⟨N, 0, none⟩ = some (.bool false) := (blk_cell h2 0).trans rfl
    have hfn : W.frozen? ⟨N, 0, none⟩ = false := blk_frozen h2 0
    gi_wp2
    have hK' := (KeepsOthers.setCell W ⟨N, 0, none⟩ (.bool true)).same D _ hK rfl
    refine ⟨by simp, .inl ⟨_, _, rfl, run_takeDeferred hK', ?_⟩⟩
    have hc5 : ((W.setCell ⟨N, 0, none⟩ (.bool true)).putObj D (.deferred none)).cell? ⟨N, 0, none⟩ = some (.bool true) :=
      (blk_cell (blk_keptOn (blk_put h2 0 (.bool true) rfl) (grownBy_putObj' _ D (.deferred none)) (fun r e => by cases e; exact ⟨_, hK', rfl⟩)) 0).trans rfl
    refine ⟨.bool true, ?_, by rw [HRES.out], ?_⟩
    · simp [results, Try.f18, go_sem, hc5]
    · rw [← HN.out]
      exact (hB.setCell (p := ⟨N, 0, none⟩) (Nat.le_refl N) _).trans (belowK_b (w := W0) (by have := HS0.out; omega) _ D _ _ HD.out hK' rfl rfl)
  case stop =>
    rintro D c pre W hD hpre ⟨⟨rfl, hin, h2⟩, hB⟩ hK
    have hres : (latRun lat0 l0.reverse).isSome = false := by
      obtain ⟨k, hk, rfl⟩ := hpre
      rw [lat_came H9.out k hk] at hin
      have e := latRun_append (l0.reverse.take k) lat0 (l0.reverse.drop k)
      rw [List.take_append_drop, hin] at e
      rw [e]; rfl
    have HN := Aside0.mk hN
    have HRES := Aside0.mk hres
    have HD := Aside0.mk hD
    have HS0 := Aside0.mk s0
    clear hN hres hD s6 e6 hWA hWB hW0 sA sB s0 hmA h3B hs0 h30 hm0 h20 hB0 b6 h62 hmk hin hpre
    gi_wp2
    refine ⟨by simp, .inl ⟨_, _, rfl, run_takeDeferred hK, ?_⟩⟩
    have hc5 : (W.putObj D (.deferred none)).cell? ⟨N, 0, none⟩ = some (.bool false) :=
      (blk_cell (blk_keptOn h2 (grownBy_putObj' _ D (.deferred none)) (fun r e => by cases e; exact ⟨_, hK, rfl⟩)) 0).trans rfl
    refine ⟨.bool false, ?_, by rw [HRES.out], ?_⟩
    · simp [results, Try.f18, go_sem, hc5]
    · rw [← HN.out]
      exact hB.trans (belowK_b (w := W0) (by have := HS0.out; omega) _ D _ _ HD.out hK rfl rfl)
set_option maxHeartbeats 4000000 in
set_option maxRecDepth 100000 in
theorem isLattice_not (A0 : Option Addr) (c0 : Nat) (l0 : List Int) (w : World) (hr0 : Kd.C (Kd.int .i64) w A0 l0.length l0) (hc0 : l0.length ≤ c0) (hw : impl_IsWord.f l0 = some false) :
    CallsIn Fence.wide 3 Try.prog 18 #[.slice A0 l0.length c0] w fun e w' => e = .returned (.bool false) ∧ Below w.heap.size w w' := by
  have HR := Aside0.mk hr0
  have HC := Aside0.mk hc0
  have HW := Aside0.mk hw
  clear hr0 hc0 hw
  refine callsIn_of_wp_marks Try.func18 rfl trivial ?_ rfl
  simp only [Try.ntmps18, List.size_toArray, List.length_cons, List.length_nil, Nat.reduceAdd, Nat.reduceSub, Array.replicate_succ, Array.replicate_zero, List.push_toArray, List.append_toArray, List.nil_append, List.cons_append]
  obtain ⟨N, hN⟩ : ∃ N, N = w.heap.size := ⟨_, rfl⟩
  have hb0 := blk_new w (.cells #[.bool false] 4 (0, 0))
  have hB1 : Below N w (w.alloc (.cells #[.bool false] 4 (0, 0))) := by rw [hN]; exact (Below.refl _ w).alloc (Nat.le_refl _) _
  rw [← hN] at hb0
  have HB1 := Aside0.mk hB1
  have HB0 := Aside0.mk hb0
  have HN := Aside0.mk hN
  clear hB1 hb0 hN
  gi_wp2_with (refine ⟨trivial, ?_⟩; gi_at_call 11; refine (callsIn_wide.2 (impl_IsWord.calls A0 c0 l0 false (w.alloc (.cells #[.bool false] 4 (0, 0))) (Kd.C_alloc HR.out _) HC.out HW.out)).mono ?_; rintro e w6 ⟨rfl, hd⟩; obtain ⟨q, hd⟩ := hd.out; subst hd; rw [← HN.out]; have hcN : ((w.alloc (.cells #[.bool false] 4 (0, 0))).drewN q).cell? ⟨N, 0, none⟩ = some (.bool false) := (blk_cell (blk_drewN HB0.out q) 0).trans rfl; have hfN : ((w.alloc (.cells #[.bool false] 4 (0, 0))).drewN q).frozen? ⟨N, 0, none⟩ = false := blk_frozen (blk_drewN HB0.out q) 0)
  have hc5 := (blk_cell (blk_put (blk_drewN HB0.out q) 0 (.bool false) rfl) 0).trans rfl
  refine ⟨.bool false, ?_, rfl, ?_⟩
  · simp [results, Try.f18, go_sem, hc5]
  · rw [← HN.out]
    exact (below_drewN' HB1.out q).setCell (p := ⟨N, 0, none⟩) (Nat.le_refl N) _
theorem impl_IsLattice.calls (A0 : Option Addr) (c0 : Nat) (l0 : List Int) (r : Bool) (w : World) (hr0 : Kd.C (Kd.int .i64) w A0 l0.length l0) (hc0 : l0.length ≤ c0) (h : impl_IsLattice.f l0 = some r) : Calls Try.prog 18 #[.slice A0 l0.length c0] w fun e w' => e = .returned (.bool r) ∧ Below w.heap.size w w' := by
  unfold impl_IsLattice.f at h
  cases hw : impl_IsWord.f l0 with
  | none => rw [hw] at h; cases h
  | some b =>
    rw [hw] at h
    simp only [Option.bind_some, Option.some.injEq] at h
    subst h
    cases b with
    | false => rw [Bool.false_and]; exact callsIn_wide.1 (isLattice_not A0 c0 l0 w hr0 hc0 hw)
    | true =>
      rw [Bool.true_and]
      refine callsIn_wide.1 (isLattice_in A0 c0 l0 w hr0 hc0 hw (fun z hz => ?_))
      have h := Option.some.inj hw
      simp only [Bool.and_eq_true, Bool.not_eq_true', List.any_eq_false, Bool.not_eq_eq_eq_not, Bool.not_true, decide_eq_false_iff_not, Bool.not_false, decide_eq_true_eq] at h
      have h2 := h.2 z hz
      simpa using h2
end

/-! ### laws_FnExactIsLattice: function 6 -/
def laws_FnExactIsLattice.f (k : Nat) (l0 : List Int) : Option (Bool) := if (l0.length : Int) > 1048576 then (some true) else ((laws_toIntS.f k l0).bind fun t124 => ((spec_IsLattice.f k t124).bind fun t127 => ((laws_toIntS.f k l0).bind fun t128 => ((impl_IsLattice.f t128).bind fun t131 => (if (t131 != t127) = true then (some false) else ((laws_toIntS.f k l0).bind fun t132 => ((laws_eqIntS.f k t128 t132).bind fun t135 => (if t135 = true then (some true) else (some false)))))))))
theorem laws_FnExactIsLattice.mono : ∀ a0 k, LeO (laws_FnExactIsLattice.f k a0) (laws_FnExactIsLattice.f (k + 1) a0) := by
  intro a0 k
  unfold laws_FnExactIsLattice.f
  repeat' first
      | (with_reducible exact laws_eqIntS.mono _ _ _)
      | (with_reducible exact laws_toIntS.mono _ _)
      | (with_reducible exact spec_IsLattice.mono _ _)
      | (with_reducible exact LeO.refl _)
      | (with_reducible exact LeO.none _)
      | (with_reducible refine LeO.ite ?_ ?_)
      | (with_reducible refine LeO.bind ?_ (fun _ => ?_))
      | exact laws_eqIntS.mono _ _ _
      | exact laws_toIntS.mono _ _
      | exact spec_IsLattice.mono _ _
      | exact LeO.none _
      | refine LeO.ite ?_ ?_
      | refine LeO.bind ?_ (fun _ => ?_)
set_option maxHeartbeats 8000000 in
set_option maxRecDepth 100000 in
theorem laws_FnExactIsLattice.calls (k : Nat) (A0 : Option Addr) (c0 : Nat) (l0 : List Int) (r : Bool) (w : World) (hr0 : Kd.C (Kd.int .i64) w A0 l0.length l0) (hc0 : l0.length ≤ c0) (h : laws_FnExactIsLattice.f k l0 = some r) :
    Calls Try.prog 6 #[.slice A0 l0.length c0] w fun e w' => e = .returned (.bool r) ∧ Below w.heap.size w w' := by
  have HR0 := Aside0.mk hr0
  have HC0 := Aside0.mk hc0
  clear hr0 hc0
  have HB := Aside0.mk (Below.refl w.heap.size w)
  have H : (if (l0.length : Int) > 1048576 then (some true) else ((laws_toIntS.f k l0).bind fun t124 => ((spec_IsLattice.f k t124).bind fun t127 => ((laws_toIntS.f k l0).bind fun t128 => ((impl_IsLattice.f t128).bind fun t131 => (if (t131 != t127) = true then (some false) else ((laws_toIntS.f k l0).bind fun t132 => ((laws_eqIntS.f k t128 t132).bind fun t135 => (if t135 = true then (some true) else (some false)))))))))) = some r := h
  clear h
  by_cases c2 : (l0.length : Int) > 1048576
  · rw [if_pos c2] at H
    have c2b0 : decide (1048576 < (l0.length : Int)) = true := decide_eq_true c2
    have c2b1 : decide (1048576 < l0.length) = true := decide_eq_true (by omega)
    clear c2
    obtain rfl := Option.some.inj H
    go_enter Try.func6, Try.ntmps6
    go_wp2
    go_ret
    exact ⟨by first | rfl | (simp [errW_none, errW_some] <;> rfl) | (simp [*, errW_none, errW_some] <;> rfl), by repeat (first | (with_reducible first | exact HB.out | apply below_alloc | apply pw_below_drewN | apply below_drew1) | exact HB.out)⟩
  · rw [if_neg c2] at H
    have c2b0 : decide (1048576 < (l0.length : Int)) = false := decide_eq_false c2
    have c2b1 : decide (1048576 < l0.length) = false := decide_eq_false (by omega)
    clear c2
    replace H := Option.bind_eq_some_iff.mp H
    obtain ⟨t124, A30, H⟩ := H
    replace H : ((spec_IsLattice.f k t124).bind fun t127 => ((laws_toIntS.f k l0).bind fun t128 => ((impl_IsLattice.f t128).bind fun t131 => (if (t131 != t127) = true then (some false) else ((laws_toIntS.f k l0).bind fun t132 => ((laws_eqIntS.f k t128 t132).bind fun t135 => (if t135 = true then (some true) else (some false)))))))) = some r := H
    have A3 := Aside0.mk A30
    clear A30
    replace H := Option.bind_eq_some_iff.mp H
    obtain ⟨t127, A40, H⟩ := H
    replace H : ((laws_toIntS.f k l0).bind fun t128 => ((impl_IsLattice.f t128).bind fun t131 => (if (t131 != t127) = true then (some false) else ((laws_toIntS.f k l0).bind fun t132 => ((laws_eqIntS.f k t128 t132).bind fun t135 => (if t135 = true then (some true) else (some false))))))) = some r := H
    have A4 := Aside0.mk A40
    clear A40
    replace H := Option.bind_eq_some_iff.mp H
    obtain ⟨t128, A50, H⟩ := H
    replace H : ((impl_IsLattice.f t128).bind fun t131 => (if (t131 != t127) = true then (some false) else ((laws_toIntS.f k l0).bind fun t132 => ((laws_eqIntS.f k t128 t132).bind fun t135 => (if t135 = true then (some true) else (some false)))))) = some r := H
    have A5 := Aside0.mk A50
    clear A50
    replace H := Option.bind_eq_some_iff.mp H
    obtain ⟨t131, A60, H⟩ := H
    replace H : (if (t131 != t127) = true then (some false) else ((laws_toIntS.f k l0).bind fun t132 => ((laws_eqIntS.f k t128 t132).bind fun t135 => (if t135 = true then (some true) else (some false))))) = some r := H
    have A6 := Aside0.mk A60
    clear A60
    by_cases c7 : (t131 != t127) = true
    · rw [if_pos c7] at H
      have c7b0 : (t131 != t127) = true := c7
      (try (have c7b1 : decide (t131 = t127) = false := by simpa using c7))
      (try (have c7b2 : (t131 == t127) = false := by simpa using c7))
      (try (have c7b3 : ¬ (t131 = t127) := by simpa using c7))
      clear c7
      obtain rfl := Option.some.inj H
      go_enter Try.func6, Try.ntmps6
      go_wp2_with (first | ((with_reducible refine gate_callee (f := 10) rfl ?_); refine goesL_ (some 10) rfl rfl Try.func10 (by kernel_rfl) rfl #[.slice A0 l0.length c0] rfl (by (try simp only [List.map_toArray, List.map_cons, List.map_nil]); first | done | rfl | (simp only [List.length_drop, List.length_take]; rfl)) ?_; (with_reducible refine (laws_toIntS.calls k _ _ l0 t124 _ ?side1 ?side2 A3.out).mono ?_); (case side1 => repeat (first | exact HR0.out | (with_reducible refine Kd.C_alloc ?_ _) | (with_reducible refine Kd.C_drewN ?_ _) | (with_reducible refine Kd.C_drew ?_))); (case side2 => exact HC0.out); rintro e w8 ⟨v125, rfl, ho0, hb⟩; refine ⟨_, rfl, ?_⟩; have n0_ := Aside0.mk (Kd.R_lower ho0 (below_size (by repeat (first | (with_reducible first | exact HB.out | apply below_alloc | apply pw_below_drewN | apply below_drew1) | exact HB.out)))); have n1_ := Aside0.mk (below_step (by repeat (first | (with_reducible first | exact HB.out | apply below_alloc | apply pw_below_drewN | apply below_drew1) | exact HB.out)) hb); clear HB; have HO126 := n0_; have HB := n1_; clear n0_ n1_; (try clear hb); (try clear hb2); (try clear hk); (try clear hi); (try clear ho0); obtain ⟨Ao9, co9, eo9⟩ := Kd.R_slice HO126.out; subst eo9) | ((with_reducible refine gate_callee (f := 17) rfl ?_); refine goesL_ (some 11) rfl rfl Try.func17 (by kernel_rfl) rfl #[.slice Ao9 t124.length co9] rfl (by (try simp only [List.map_toArray, List.map_cons, List.map_nil]); first | done | rfl | (simp only [List.length_drop, List.length_take]; rfl)) ?_; (with_reducible refine (spec_IsLattice.calls k _ _ t124 t127 _ ?side1 ?side2 A4.out).mono ?_); (case side1 => repeat (first | exact (Kd.R_reads' HO126.out).2.2 | (with_reducible refine Kd.C_alloc ?_ _) | (with_reducible refine Kd.C_drewN ?_ _) | (with_reducible refine Kd.C_drew ?_))); (case side2 => exact (Kd.R_reads' HO126.out).2.1); rintro e w10 ⟨rfl, hb⟩; refine ⟨_, rfl, ?_⟩; have n0_ := Aside0.mk (Kd.R_below (by (with_reducible repeat (first | apply Kd.R_alloc | apply Kd.R_drewN | apply Kd.R_drew)); exact HO126.out) hb); have n1_ := Aside0.mk (below_step (by repeat (first | (with_reducible first | exact HB.out | apply below_alloc | apply pw_below_drewN | apply below_drew1) | exact HB.out)) hb); clear HO126; clear HB; have HO126 := n0_; have HB := n1_; clear n0_ n1_; (try clear hb); (try clear hb2); (try clear hk); (try clear hi)) | ((with_reducible refine gate_callee (f := 10) rfl ?_); refine goesL_ (some 13) rfl rfl Try.func10 (by kernel_rfl) rfl #[.slice A0 l0.length c0] rfl (by (try simp only [List.map_toArray, List.map_cons, List.map_nil]); first | done | rfl | (simp only [List.length_drop, List.length_take]; rfl)) ?_; (with_reducible refine (laws_toIntS.calls k _ _ l0 t128 _ ?side1 ?side2 A5.out).mono ?_); (case side1 => repeat (first | exact (Kd.C_below HR0.out HB.out) | (with_reducible refine Kd.C_alloc ?_ _) | (with_reducible refine Kd.C_drewN ?_ _) | (with_reducible refine Kd.C_drew ?_))); (case side2 => exact HC0.out); rintro e w11 ⟨v129, rfl, ho0, hb⟩; refine ⟨_, rfl, ?_⟩; have n0_ := Aside0.mk (Kd.R_elder' (by (with_reducible repeat (first | apply Kd.R_alloc | apply Kd.R_drewN | apply Kd.R_drew)); exact HO126.out) (Kd.R_base ho0) hb); have n1_ := Aside0.mk (Kd.R_lower (Kd.R_new' ho0 (Kd.R_lt (by (with_reducible repeat (first | apply Kd.R_alloc | apply Kd.R_drewN | apply Kd.R_drew)); exact HO126.out))) (below_size (by repeat (first | (with_reducible first | exact HB.out | apply below_alloc | apply pw_below_drewN | apply below_drew1) | exact HB.out)))); have n2_ := Aside0.mk (below_step (by repeat (first | (with_reducible first | exact HB.out | apply below_alloc | apply pw_below_drewN | apply below_drew1) | exact HB.out)) hb); clear HO126; clear HB; have HO126 := n0_; have HO130 := n1_; have HB := n2_; clear n0_ n1_ n2_; (try clear hb); (try clear hb2); (try clear hk); (try clear hi); (try clear ho0); obtain ⟨Ao12, co12, eo12⟩ := Kd.R_slice HO130.out; subst eo12) | ((with_reducible refine gate_callee (f := 18) rfl ?_); refine goesL_ (some 15) rfl rfl Try.func18 (by kernel_rfl) rfl #[.slice Ao12 t128.length co12] rfl (by (try simp only [List.map_toArray, List.map_cons, List.map_nil]); first | done | rfl | (simp only [List.length_drop, List.length_take]; rfl)) ?_; (with_reducible refine (impl_IsLattice.calls _ _ t128 t131 _ ?side1 ?side2 A6.out).mono ?_); (case side1 => repeat (first | exact (Kd.R_reads' HO130.out).2.2 | (with_reducible refine Kd.C_alloc ?_ _) | (with_reducible refine Kd.C_drewN ?_ _) | (with_reducible refine Kd.C_drew ?_))); (case side2 => exact (Kd.R_reads' HO130.out).2.1); rintro e w13 ⟨rfl, hb⟩; refine ⟨_, rfl, ?_⟩; have n0_ := Aside0.mk (Kd.R_below (by (with_reducible repeat (first | apply Kd.R_alloc | apply Kd.R_drewN | apply Kd.R_drew)); exact HO126.out) hb); have n1_ := Aside0.mk (Kd.R_below (by (with_reducible repeat (first | apply Kd.R_alloc | apply Kd.R_drewN | apply Kd.R_drew)); exact HO130.out) hb); have n2_ := Aside0.mk (below_step (by repeat (first | (with_reducible first | exact HB.out | apply below_alloc | apply pw_below_drewN | apply below_drew1) | exact HB.out)) hb); clear HO126; clear HO130; clear HB; have HO126 := n0_; have HO130 := n1_; have HB := n2_; clear n0_ n1_ n2_; (try clear hb); (try clear hb2); (try clear hk); (try clear hi)))
      go_ret
      exact ⟨by first | rfl | (simp [errW_none, errW_some] <;> rfl) | (simp [*, errW_none, errW_some] <;> rfl), by repeat (first | (with_reducible first | exact HB.out | apply below_alloc | apply pw_below_drewN | apply below_drew1) | exact HB.out)⟩
    · rw [if_neg c7] at H
      have c7b0 : (t131 != t127) = false := by simpa using c7
      (try (have c7b1 : decide (t131 = t127) = true := by simpa using c7))
      (try (have c7b2 : (t131 == t127) = true := by simpa using c7))
      clear c7
      replace H := Option.bind_eq_some_iff.mp H
      obtain ⟨t132, A140, H⟩ := H
      replace H : ((laws_eqIntS.f k t128 t132).bind fun t135 => (if t135 = true then (some true) else (some false))) = some r := H
      have A14 := Aside0.mk A140
      clear A140
      replace H := Option.bind_eq_some_iff.mp H
      obtain ⟨t135, A150, H⟩ := H
      replace H : (if t135 = true then (some true) else (some false)) = some r := H
      have A15 := Aside0.mk A150
      clear A150
      by_cases c16 : t135 = true
      · subst c16
        have H1 : (some true) = some r := by rw [if_pos rfl] at H; exact H
        clear H
        have H := H1
        clear H1
        obtain rfl := Option.some.inj H
        go_enter Try.func6, Try.ntmps6
        go_wp2_with (first | ((with_reducible refine gate_callee (f := 10) rfl ?_); refine goesL_ (some 10) rfl rfl Try.func10 (by kernel_rfl) rfl #[.slice A0 l0.length c0] rfl (by (try simp only [List.map_toArray, List.map_cons, List.map_nil]); first | done | rfl | (simp only [List.length_drop, List.length_take]; rfl)) ?_; (with_reducible refine (laws_toIntS.calls k _ _ l0 t124 _ ?side1 ?side2 A3.out).mono ?_); (case side1 => repeat (first | exact HR0.out | (with_reducible refine Kd.C_alloc ?_ _) | (with_reducible refine Kd.C_drewN ?_ _) | (with_reducible refine Kd.C_drew ?_))); (case side2 => exact HC0.out); rintro e w17 ⟨v125, rfl, ho0, hb⟩; refine ⟨_, rfl, ?_⟩; have n0_ := Aside0.mk (Kd.R_lower ho0 (below_size (by repeat (first | (with_reducible first | exact HB.out | apply below_alloc | apply pw_below_drewN | apply below_drew1) | exact HB.out)))); have n1_ := Aside0.mk (below_step (by repeat (first | (with_reducible first | exact HB.out | apply below_alloc | apply pw_below_drewN | apply below_drew1) | exact HB.out)) hb); clear HB; have HO126 := n0_; have HB := n1_; clear n0_ n1_; (try clear hb); (try clear hb2); (try clear hk); (try clear hi); (try clear ho0); obtain ⟨Ao18, co18, eo18⟩ := Kd.R_slice HO126.out; subst eo18) | ((with_reducible refine gate_callee (f := 17) rfl ?_); refine goesL_ (some 11) rfl rfl Try.func17 (by kernel_rfl) rfl #[.slice Ao18 t124.length co18] rfl (by (try simp only [List.map_toArray, List.map_cons, List.map_nil]); first | done | rfl | (simp only [List.length_drop, List.length_take]; rfl)) ?_; (with_reducible refine (spec_IsLattice.calls k _ _ t124 t127 _ ?side1 ?side2 A4.out).mono ?_); (case side1 => repeat (first | exact (Kd.R_reads' HO126.out).2.2 | (with_reducible refine Kd.C_alloc ?_ _) | (with_reducible refine Kd.C_drewN ?_ _) | (with_reducible refine Kd.C_drew ?_))); (case side2 => exact (Kd.R_reads' HO126.out).2.1); rintro e w19 ⟨rfl, hb⟩; refine ⟨_, rfl, ?_⟩; have n0_ := Aside0.mk (Kd.R_below (by (with_reducible repeat (first | apply Kd.R_alloc | apply Kd.R_drewN | apply Kd.R_drew)); exact HO126.out) hb); have n1_ := Aside0.mk (below_step (by repeat (first | (with_reducible first | exact HB.out | apply below_alloc | apply pw_below_drewN | apply below_drew1) | exact HB.out)) hb); clear HO126; clear HB; have HO126 := n0_; have HB := n1_; clear n0_ n1_; (try clear hb); (try clear hb2); (try clear hk); (try clear hi)) | ((with_reducible refine gate_callee (f := 10) rfl ?_); refine goesL_ (some 13) rfl rfl Try.func10 (by kernel_rfl) rfl #[.slice A0 l0.length c0] rfl (by (try simp only [List.map_toArray, List.map_cons, List.map_nil]); first | done | rfl | (simp only [List.length_drop, List.length_take]; rfl)) ?_; (with_reducible refine (laws_toIntS.calls k _ _ l0 t128 _ ?side1 ?side2 A5.out).mono ?_); (case side1 => repeat (first | exact (Kd.C_below HR0.out HB.out) | (with_reducible refine Kd.C_alloc ?_ _) | (with_reducible refine Kd.C_drewN ?_ _) | (with_reducible refine Kd.C_drew ?_))); (case side2 => exact HC0.out); rintro e w20 ⟨v129, rfl, ho0, hb⟩; refine ⟨_, rfl, ?_⟩; have n0_ := Aside0.mk (Kd.R_elder' (by (with_reducible repeat (first | apply Kd.R_alloc | apply Kd.R_drewN | apply Kd.R_drew)); exact HO126.out) (Kd.R_base ho0) hb); have n1_ := Aside0.mk (Kd.R_lower (Kd.R_new' ho0 (Kd.R_lt (by (with_reducible repeat (first | apply Kd.R_alloc | apply Kd.R_drewN | apply Kd.R_drew)); exact HO126.out))) (below_size (by repeat (first | (with_reducible first | exact HB.out | apply below_alloc | apply pw_below_drewN | apply below_drew1) | exact HB.out)))); have n2_ := Aside0.mk (below_step (by repeat (first | (with_reducible first | exact HB.out | apply below_alloc | apply pw_below_drewN | apply below_drew1) | exact HB.out)) hb); clear HO126; clear HB; have HO126 := n0_; have HO130 := n1_; have HB := n2_; clear n0_ n1_ n2_; (try clear hb); (try clear hb2); (try clear hk); (try clear hi); (try clear ho0); obtain ⟨Ao21, co21, eo21⟩ := Kd.R_slice HO130.out; subst eo21) | ((with_reducible refine gate_callee (f := 18) rfl ?_); refine goesL_ (some 15) rfl rfl Try.func18 (by kernel_rfl) rfl #[.slice Ao21 t128.length co21] rfl (by (try simp only [List.map_toArray, List.map_cons, List.map_nil]); first | done | rfl | (simp only [List.length_drop, List.length_take]; rfl)) ?_; (with_reducible refine (impl_IsLattice.calls _ _ t128 t131 _ ?side1 ?side2 A6.out).mono ?_); (case side1 => repeat (first | exact (Kd.R_reads' HO130.out).2.2 | (with_reducible refine Kd.C_alloc ?_ _) | (with_reducible refine Kd.C_drewN ?_ _) | (with_reducible refine Kd.C_drew ?_))); (case side2 => exact (Kd.R_reads' HO130.out).2.1); rintro e w22 ⟨rfl, hb⟩; refine ⟨_, rfl, ?_⟩; have n0_ := Aside0.mk (Kd.R_below (by (with_reducible repeat (first | apply Kd.R_alloc | apply Kd.R_drewN | apply Kd.R_drew)); exact HO126.out) hb); have n1_ := Aside0.mk (Kd.R_below (by (with_reducible repeat (first | apply Kd.R_alloc | apply Kd.R_drewN | apply Kd.R_drew)); exact HO130.out) hb); have n2_ := Aside0.mk (below_step (by repeat (first | (with_reducible first | exact HB.out | apply below_alloc | apply pw_below_drewN | apply below_drew1) | exact HB.out)) hb); clear HO126; clear HO130; clear HB; have HO126 := n0_; have HO130 := n1_; have HB := n2_; clear n0_ n1_ n2_; (try clear hb); (try clear hb2); (try clear hk); (try clear hi)) | ((with_reducible refine gate_callee (f := 10) rfl ?_); refine goesL_ (some 21) rfl rfl Try.func10 (by kernel_rfl) rfl #[.slice A0 l0.length c0] rfl (by (try simp only [List.map_toArray, List.map_cons, List.map_nil]); first | done | rfl | (simp only [List.length_drop, List.length_take]; rfl)) ?_; (with_reducible refine (laws_toIntS.calls k _ _ l0 t132 _ ?side1 ?side2 A14.out).mono ?_); (case side1 => repeat (first | exact (Kd.C_below HR0.out HB.out) | (with_reducible refine Kd.C_alloc ?_ _) | (with_reducible refine Kd.C_drewN ?_ _) | (with_reducible refine Kd.C_drew ?_))); (case side2 => exact HC0.out); rintro e w23 ⟨v133, rfl, ho0, hb⟩; refine ⟨_, rfl, ?_⟩; have n0_ := Aside0.mk (Kd.R_elder' (by (with_reducible repeat (first | apply Kd.R_alloc | apply Kd.R_drewN | apply Kd.R_drew)); exact HO126.out) (Kd.R_base ho0) hb); have n1_ := Aside0.mk (Kd.R_elder' (by (with_reducible repeat (first | apply Kd.R_alloc | apply Kd.R_drewN | apply Kd.R_drew)); exact HO130.out) (Kd.R_base ho0) hb); have n2_ := Aside0.mk (Kd.R_lower (Kd.R_new' (Kd.R_new' ho0 (Kd.R_lt (by (with_reducible repeat (first | apply Kd.R_alloc | apply Kd.R_drewN | apply Kd.R_drew)); exact HO126.out))) (Kd.R_lt (by (with_reducible repeat (first | apply Kd.R_alloc | apply Kd.R_drewN | apply Kd.R_drew)); exact HO130.out))) (below_size (by repeat (first | (with_reducible first | exact HB.out | apply below_alloc | apply pw_below_drewN | apply below_drew1) | exact HB.out)))); have n3_ := Aside0.mk (below_step (by repeat (first | (with_reducible first | exact HB.out | apply below_alloc | apply pw_below_drewN | apply below_drew1) | exact HB.out)) hb); clear HO126; clear HO130; clear HB; have HO126 := n0_; have HO130 := n1_; have HO134 := n2_; have HB := n3_; clear n0_ n1_ n2_ n3_; (try clear hb); (try clear hb2); (try clear hk); (try clear hi); (try clear ho0); obtain ⟨Ao24, co24, eo24⟩ := Kd.R_slice HO134.out; subst eo24) | ((with_reducible refine gate_callee (f := 12) rfl ?_); refine goesL_ (some 22) rfl rfl Try.func12 (by kernel_rfl) rfl #[.slice Ao21 t128.length co21, .slice Ao24 t132.length co24] rfl (by (try simp only [List.map_toArray, List.map_cons, List.map_nil]); first | done | rfl | (simp only [List.length_drop, List.length_take]; rfl)) ?_; (with_reducible refine (laws_eqIntS.calls k _ _ t128 _ _ t132 true _ ?side1 ?side2 ?side3 ?side4 A15.out).mono ?_); (case side1 => repeat (first | exact (Kd.R_reads' HO130.out).2.2 | (with_reducible refine Kd.C_alloc ?_ _) | (with_reducible refine Kd.C_drewN ?_ _) | (with_reducible refine Kd.C_drew ?_))); (case side2 => exact (Kd.R_reads' HO130.out).2.1); (case side3 => repeat (first | exact (Kd.R_reads' HO134.out).2.2 | (with_reducible refine Kd.C_alloc ?_ _) | (with_reducible refine Kd.C_drewN ?_ _) | (with_reducible refine Kd.C_drew ?_))); (case side4 => exact (Kd.R_reads' HO134.out).2.1); rintro e w' ⟨rfl, ⟨nd, rfl⟩⟩; refine ⟨_, rfl, ?_⟩))
        go_ret
        exact ⟨by first | rfl | (simp [errW_none, errW_some] <;> rfl) | (simp [*, errW_none, errW_some] <;> rfl), by repeat (first | (with_reducible first | exact HB.out | apply below_alloc | apply pw_below_drewN | apply below_drew1) | exact HB.out)⟩
      · replace c16 := Bool.eq_false_iff.mpr c16
        subst c16
        have H1 : (some false) = some r := by rw [if_neg (show ¬ (false = true) by decide)] at H; exact H
        clear H
        have H := H1
        clear H1
        obtain rfl := Option.some.inj H
        go_enter Try.func6, Try.ntmps6
        go_wp2_with (first | ((with_reducible refine gate_callee (f := 10) rfl ?_); refine goesL_ (some 10) rfl rfl Try.func10 (by kernel_rfl) rfl #[.slice A0 l0.length c0] rfl (by (try simp only [List.map_toArray, List.map_cons, List.map_nil]); first | done | rfl | (simp only [List.length_drop, List.length_take]; rfl)) ?_; (with_reducible refine (laws_toIntS.calls k _ _ l0 t124 _ ?side1 ?side2 A3.out).mono ?_); (case side1 => repeat (first | exact HR0.out | (with_reducible refine Kd.C_alloc ?_ _) | (with_reducible refine Kd.C_drewN ?_ _) | (with_reducible refine Kd.C_drew ?_))); (case side2 => exact HC0.out); rintro e w25 ⟨v125, rfl, ho0, hb⟩; refine ⟨_, rfl, ?_⟩; have n0_ := Aside0.mk (Kd.R_lower ho0 (below_size (by repeat (first | (with_reducible first | exact HB.out | apply below_alloc | apply pw_below_drewN | apply below_drew1) | exact HB.out)))); have n1_ := Aside0.mk (below_step (by repeat (first | (with_reducible first | exact HB.out | apply below_alloc | apply pw_below_drewN | apply below_drew1) | exact HB.out)) hb); clear HB; have HO126 := n0_; have HB := n1_; clear n0_ n1_; (try clear hb); (try clear hb2); (try clear hk); (try clear hi); (try clear ho0); obtain ⟨Ao26, co26, eo26⟩ := Kd.R_slice HO126.out; subst eo26) | ((with_reducible refine gate_callee (f := 17) rfl ?_); refine goesL_ (some 11) rfl rfl Try.func17 (by kernel_rfl) rfl #[.slice Ao26 t124.length co26] rfl (by (try simp only [List.map_toArray, List.map_cons, List.map_nil]); first | done | rfl | (simp only [List.length_drop, List.length_take]; rfl)) ?_; (with_reducible refine (spec_IsLattice.calls k _ _ t124 t127 _ ?side1 ?side2 A4.out).mono ?_); (case side1 => repeat (first | exact (Kd.R_reads' HO126.out).2.2 | (with_reducible refine Kd.C_alloc ?_ _) | (with_reducible refine Kd.C_drewN ?_ _) | (with_reducible refine Kd.C_drew ?_))); (case side2 => exact (Kd.R_reads' HO126.out).2.1); rintro e w27 ⟨rfl, hb⟩; refine ⟨_, rfl, ?_⟩; have n0_ := Aside0.mk (Kd.R_below (by (with_reducible repeat (first | apply Kd.R_alloc | apply Kd.R_drewN | apply Kd.R_drew)); exact HO126.out) hb); have n1_ := Aside0.mk (below_step (by repeat (first | (with_reducible first | exact HB.out | apply below_alloc | apply pw_below_drewN | apply below_drew1) | exact HB.out)) hb); clear HO126; clear HB; have HO126 := n0_; have HB := n1_; clear n0_ n1_; (try clear hb); (try clear hb2); (try clear hk); (try clear hi)) | ((with_reducible refine gate_callee (f := 10) rfl ?_); refine goesL_ (some 13) rfl rfl Try.func10 (by kernel_rfl) rfl #[.slice A0 l0.length c0] rfl (by (try simp only [List.map_toArray, List.map_cons, List.map_nil]); first | done | rfl | (simp only [List.length_drop, List.length_take]; rfl)) ?_; (with_reducible refine (laws_toIntS.calls k _ _ l0 t128 _ ?side1 ?side2 A5.out).mono ?_); (case side1 => repeat (first | exact (Kd.C_below HR0.out HB.out) | (with_reducible refine Kd.C_alloc ?_ _) | (with_reducible refine Kd.C_drewN ?_ _) | (with_reducible refine Kd.C_drew ?_))); (case side2 => exact HC0.out); rintro e w28 ⟨v129, rfl, ho0, hb⟩; refine ⟨_, rfl, ?_⟩; have n0_ := Aside0.mk (Kd.R_elder' (by (with_reducible repeat (first | apply Kd.R_alloc | apply Kd.R_drewN | apply Kd.R_drew)); exact HO126.out) (Kd.R_base ho0) hb); have n1_ := Aside0.mk (Kd.R_lower (Kd.R_new' ho0 (Kd.R_lt (by (with_reducible repeat (first | apply Kd.R_alloc | apply Kd.R_drewN | apply Kd.R_drew)); exact HO126.out))) (below_size (by repeat (first | (with_reducible first | exact HB.out | apply below_alloc | apply pw_below_drewN | apply below_drew1) | exact HB.out)))); have n2_ := Aside0.mk (below_step (by repeat (first | (with_reducible first | exact HB.out | apply below_alloc | apply pw_below_drewN | apply below_drew1) | exact HB.out)) hb); clear HO126; clear HB; have HO126 := n0_; have HO130 := n1_; have HB := n2_; clear n0_ n1_ n2_; (try clear hb); (try clear hb2); (try clear hk); (try clear hi); (try clear ho0); obtain ⟨Ao29, co29, eo29⟩ := Kd.R_slice HO130.out; subst eo29) | ((with_reducible refine gate_callee (f := 18) rfl ?_); refine goesL_ (some 15) rfl rfl Try.func18 (by kernel_rfl) rfl #[.slice Ao29 t128.length co29] rfl (by (try simp only [List.map_toArray, List.map_cons, List.map_nil]); first | done | rfl | (simp only [List.length_drop, List.length_take]; rfl)) ?_; (with_reducible refine (impl_IsLattice.calls _ _ t128 t131 _ ?side1 ?side2 A6.out).mono ?_); (case side1 => repeat (first | exact (Kd.R_reads' HO130.out).2.2 | (with_reducible refine Kd.C_alloc ?_ _) | (with_reducible refine Kd.C_drewN ?_ _) | (with_reducible refine Kd.C_drew ?_))); (case side2 => exact (Kd.R_reads' HO130.out).2.1); rintro e w30 ⟨rfl, hb⟩; refine ⟨_, rfl, ?_⟩; have n0_ := Aside0.mk (Kd.R_below (by (with_reducible repeat (first | apply Kd.R_alloc | apply Kd.R_drewN | apply Kd.R_drew)); exact HO126.out) hb); have n1_ := Aside0.mk (Kd.R_below (by (with_reducible repeat (first | apply Kd.R_alloc | apply Kd.R_drewN | apply Kd.R_drew)); exact HO130.out) hb); have n2_ := Aside0.mk (below_step (by repeat (first | (with_reducible first | exact HB.out | apply below_alloc | apply pw_below_drewN | apply below_drew1) | exact HB.out)) hb); clear HO126; clear HO130; clear HB; have HO126 := n0_; have HO130 := n1_; have HB := n2_; clear n0_ n1_ n2_; (try clear hb); (try clear hb2); (try clear hk); (try clear hi)) | ((with_reducible refine gate_callee (f := 10) rfl ?_); refine goesL_ (some 21) rfl rfl Try.func10 (by kernel_rfl) rfl #[.slice A0 l0.length c0] rfl (by (try simp only [List.map_toArray, List.map_cons, List.map_nil]); first | done | rfl | (simp only [List.length_drop, List.length_take]; rfl)) ?_; (with_reducible refine (laws_toIntS.calls k _ _ l0 t132 _ ?side1 ?side2 A14.out).mono ?_); (case side1 => repeat (first | exact (Kd.C_below HR0.out HB.out) | (with_reducible refine Kd.C_alloc ?_ _) | (with_reducible refine Kd.C_drewN ?_ _) | (with_reducible refine Kd.C_drew ?_))); (case side2 => exact HC0.out); rintro e w31 ⟨v133, rfl, ho0, hb⟩; refine ⟨_, rfl, ?_⟩; have n0_ := Aside0.mk (Kd.R_elder' (by (with_reducible repeat (first | apply Kd.R_alloc | apply Kd.R_drewN | apply Kd.R_drew)); exact HO126.out) (Kd.R_base ho0) hb); have n1_ := Aside0.mk (Kd.R_elder' (by (with_reducible repeat (first | apply Kd.R_alloc | apply Kd.R_drewN | apply Kd.R_drew)); exact HO130.out) (Kd.R_base ho0) hb); have n2_ := Aside0.mk (Kd.R_lower (Kd.R_new' (Kd.R_new' ho0 (Kd.R_lt (by (with_reducible repeat (first | apply Kd.R_alloc | apply Kd.R_drewN | apply Kd.R_drew)); exact HO126.out))) (Kd.R_lt (by (with_reducible repeat (first | apply Kd.R_alloc | apply Kd.R_drewN | apply Kd.R_drew)); exact HO130.out))) (below_size (by repeat (first | (with_reducible first | exact HB.out | apply below_alloc | apply pw_below_drewN | apply below_drew1) | exact HB.out)))); have n3_ := Aside0.mk (below_step (by repeat (first | (with_reducible first | exact HB.out | apply below_alloc | apply pw_below_drewN | apply below_drew1) | exact HB.out)) hb); clear HO126; clear HO130; clear HB; have HO126 := n0_; have HO130 := n1_; have HO134 := n2_; have HB := n3_; clear n0_ n1_ n2_ n3_; (try clear hb); (try clear hb2); (try clear hk); (try clear hi); (try clear ho0); obtain ⟨Ao32, co32, eo32⟩ := Kd.R_slice HO134.out; subst eo32) | ((with_reducible refine gate_callee (f := 12) rfl ?_); refine goesL_ (some 22) rfl rfl Try.func12 (by kernel_rfl) rfl #[.slice Ao29 t128.length co29, .slice Ao32 t132.length co32] rfl (by (try simp only [List.map_toArray, List.map_cons, List.map_nil]); first | done | rfl | (simp only [List.length_drop, List.length_take]; rfl)) ?_; (with_reducible refine (laws_eqIntS.calls k _ _ t128 _ _ t132 false _ ?side1 ?side2 ?side3 ?side4 A15.out).mono ?_); (case side1 => repeat (first | exact (Kd.R_reads' HO130.out).2.2 | (with_reducible refine Kd.C_alloc ?_ _) | (with_reducible refine Kd.C_drewN ?_ _) | (with_reducible refine Kd.C_drew ?_))); (case side2 => exact (Kd.R_reads' HO130.out).2.1); (case side3 => repeat (first | exact (Kd.R_reads' HO134.out).2.2 | (with_reducible refine Kd.C_alloc ?_ _) | (with_reducible refine Kd.C_drewN ?_ _) | (with_reducible refine Kd.C_drew ?_))); (case side4 => exact (Kd.R_reads' HO134.out).2.1); rintro e w' ⟨rfl, ⟨nd, rfl⟩⟩; refine ⟨_, rfl, ?_⟩))
        go_ret
        exact ⟨by first | rfl | (simp [errW_none, errW_some] <;> rfl) | (simp [*, errW_none, errW_some] <;> rfl), by repeat (first | (with_reducible first | exact HB.out | apply below_alloc | apply pw_below_drewN | apply below_drew1) | exact HB.out)⟩

/-- THE ONE PURE STATEMENT of laws_FnExactIsLattice: yours. -/
def laws_FnExactIsLattice.Pure : Prop := ∀ (l0 : List Int), l0.length ≤ maxLen → l0.length * 8 ≤ 140737488351232 → (∀ x ∈ l0, (Lit.int .i64 x).wf = true) → ∃ k, laws_FnExactIsLattice.f k l0 = some true
theorem laws_FnExactIsLattice.walk (P : laws_FnExactIsLattice.Pure) (a0 : Option Addr) (len0 cap0 : Nat) (z0 : List Int) (w : World) (w0 : (a0 = none ∧ len0 = 0 ∧ cap0 = 0 ∧ z0 = []) ∨ ∃ x, a0 = some x ∧ len0 ≤ cap0 ∧ cap0 ≤ maxLen ∧ z0.length = cap0 ∧ (∀ i, i < z0.length → w.cell? (x.add i) = some (.int .i64 (z0.getD i 0))) ∧ ∀ n ∈ z0, (Lit.int .i64 n).wf = true) (y0 : len0 * 8 ≤ 140737488351232) :
    Calls Try.prog 6 #[.slice a0 len0 cap0] w fun e w' => e = .returned (.bool true) ∧ Below w.heap.size w w' := by
  obtain ⟨l0, rfl, hr0, hm0, hw0, hc0⟩ := ReadsInt.ofRowC w0
  obtain ⟨k, h⟩ := P l0 hm0 y0 hw0
  refine (laws_FnExactIsLattice.calls k _ _ l0 true w (Kd.C_of_reads (d := (0 : Int)) (h1 := fun _ => rfl) hr0) hc0 h).mono ?_
  rintro e w' ⟨rfl, hd⟩
  exact ⟨rfl, hd⟩

end Go.Proofs.Ytieoemobdbmhhaa.F
