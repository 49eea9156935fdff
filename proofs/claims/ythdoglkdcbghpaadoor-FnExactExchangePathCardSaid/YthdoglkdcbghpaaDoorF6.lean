/- For each Go function named below: the plain Lean function that it computes, and that its call returns just that; conditions: those that each theorem names. -/
import Derived.Test.YthdoglkdcbghpaaDoorF0
import Derived.Test.YthdoglkdcbghpaaDoorF2
import Derived.Test.YthdoglkdcbghpaaDoorF5
namespace Go.Proofs.YthdoglkdcbghpaaDoor.F
open Go.RowKit Go.Proofs.YthdoglkdcbghpaaDoorW.PrintWords Go.Proofs.YthdoglkdcbghpaaDoorW.PrintLast Go.Proofs.YthdoglkdcbghpaaDoorW.PrintMore
attribute [local go_sem] max2_int min2_int max_two min_two max_three min_three max_four min_four   -- for this text's walks alone
set_option linter.unusedVariables false
set_option linter.unusedSimpArgs false
abbrev zB6_0 : Array Bool := #[false, false, false, false, false, false, false, false, false, false, false, false, false, false, false, false]
abbrev zB6_1 : Array Bool := #[true, false, false, false, false, false, false, false, false, false, false, false, false, false, false, false]
abbrev zB6_2 : Array Bool := #[true, false, true, false, false, false, false, false, false, false, false, false, false, false, false, false]
abbrev zB6_3 : Array Bool := #[true, false, true, true, false, false, false, false, false, false, false, false, false, false, false, false]
abbrev zB6_4 : Array Bool := #[true, false, true, true, false, true, false, false, false, false, false, false, false, false, false, false]
abbrev zB6_5 : Array Bool := #[true, false, true, true, false, true, false, false, true, false, false, false, false, false, false, false]
abbrev zB6_6 : Array Bool := #[true, false, true, true, false, true, false, false, true, true, false, false, false, false, false, false]
abbrev zB6_7 : Array Bool := #[true, false, true, true, false, true, false, false, true, true, true, false, false, false, false, false]
abbrev zB6_8 : Array Bool := #[true, true, true, true, false, true, false, false, true, true, true, false, false, false, false, false]
abbrev zB6_9 : Array Bool := #[true, true, true, true, true, true, false, false, true, true, true, false, false, false, false, false]
abbrev zB6_10 : Array Bool := #[true, true, true, true, true, true, true, false, true, true, true, false, false, false, false, false]
abbrev zB6_11 : Array Bool := #[true, true, true, true, true, true, true, true, true, true, true, false, false, false, false, false]
abbrev zB6_12 : Array Bool := #[true, true, true, true, true, true, true, true, true, true, true, true, false, false, false, false]
abbrev zB6_13 : Array Bool := #[true, true, true, true, true, true, true, true, true, true, true, true, true, false, false, false]
abbrev zB6_14 : Array Bool := #[true, true, true, true, true, true, true, true, true, true, true, true, true, true, false, false]
abbrev zB6_15 : Array Bool := #[true, true, true, true, true, true, true, true, true, true, true, true, true, true, true, false]
abbrev zB6_16 : Array Bool := #[true, true, true, true, true, true, true, true, true, true, true, true, true, true, true, true]

/-! ### impl_insertedWith: function 60 -/
def insertedWith8.T : Bool × List (List Nat × List Nat) := (true, [([], []), ([0], [0]), ([], []), ([], []), ([3], [3]), ([], []), ([4, 5], [4, 5]), ([6], [6]), ([], []), ([], []), ([8, 9], [8, 9]), ([10], [10]), ([11], [11]), ([7, 12], [7, 12]), ([1, 2, 0, 1, 2, 3, 4, 5, 6, 7, 8, 9, 10, 11, 12, 13], [1, 2]), ([14, 13, 13, 0, 1, 2, 3, 4, 5, 6, 7, 8, 9, 10, 11, 12, 13], [13, 14])])
def insertedWith8.B : List Nat := [0, 1, 0, 0, 8, 0, 56, 120, 0, 0, 768, 1792, 3840, 8184, 16383, 32767]
theorem insertedWith8.tab : rtab .any (opsOf Tryd.f60 8) = insertedWith8.T := by kernel_rfl
theorem insertedWith8.bits : waitsOk insertedWith8.T.2 insertedWith8.B = true := by kernel_rfl
set_option maxHeartbeats 8000000 in
set_option maxRecDepth 100000 in
theorem insertedWith_calls (w : World) (A0 : Option Addr) (c0 : Nat) (l0 : List Int) (A1 : Option Addr) (c1 : Nat) (l1 : List Int) (hr0 : Kd.C (Kd.int .i64) w A0 l0.length l0) (hc0 : l0.length ≤ c0) (hr1 : Kd.C (Kd.int .i64) w A1 l1.length l1) (hc1 : l1.length ≤ c1) (hl : l0.length ≤ 900) (hll : l0.length ≤ l1.length) :
    Calls Tryd.prog 60 #[.slice A0 l0.length c0, .slice A1 l1.length c1] w fun e w' => ∃ (pv qv : Value) (okp okq : Nat → Prop), e = .returned (.tuple #[.agg #[.slice none 0 0, pv], .agg #[.slice none 0 0, qv]]) ∧ (∀ k, okp k → ¬ okq k) ∧ Kd.S (Kd.slice 3 (Kd.int .i64)) 22 w' w.heap.size okp pv (bothAt l0 (fun k => rd l1 (k : Int)) l0.length).1 ∧ Kd.S (Kd.slice 3 (Kd.int .i64)) 22 w' w.heap.size okq qv (bothAt l0 (fun k => rd l1 (k : Int)) l0.length).2 ∧ Below w.heap.size w w' := by
  have HR0 := Aside0.mk hr0
  have HR1 := Aside0.mk hr1
  have HL := Aside0.mk hl
  have HLL := Aside0.mk hll
  clear hr0 hc0 hr1 hc1 hl hll
  go_enter Tryd.func60, Tryd.ntmps60
  go_wp2_with (first | ((with_reducible refine gate_dst (N := 4) rfl ?_); refine zX (N := 4) (cs := #[.slice none 0 0, .slice none 0 0]) (t := 53) ?_; intro b4 hb4 w4 hx4 hl4; have nb_ := Aside0.mk (hl4); have L4 := Aside0.mk (show w.heap.size ≤ b4 from by omega); have B := nb_; have T4 := Aside0.mk hx4; clear hx4 hl4 hb4 nb_) | ((with_reducible refine gate_dst (N := 5) rfl ?_); refine zX (N := 5) (cs := #[.slice none 0 0, .slice none 0 0]) (t := 53) ?_; intro b5 hb5 w5 hx5 hl5; have n4_ := Aside0.mk (blk_below T4.out hl5); have nb_ := Aside0.mk (below_then B.out B.out.size hl5); have L5 := Aside0.mk (show b4 < b5 from by rw [hb5]; exact blk_lt T4.out); clear T4; clear B; have T4 := n4_; have B := nb_; have T5 := Aside0.mk hx5; clear hx5 hl5 hb5 nb_ n4_) | ((with_reducible refine gate_dst (N := 6) rfl ?_); refine zX (N := 6) (cs := #[.slice none 0 0, .slice none 0 0]) (t := 53) ?_; intro b6 hb6 w6 hx6 hl6; have n4_ := Aside0.mk (blk_below T4.out hl6); have n5_ := Aside0.mk (blk_below T5.out hl6); have nb_ := Aside0.mk (below_then B.out B.out.size hl6); have L6 := Aside0.mk (show b5 < b6 from by rw [hb6]; exact blk_lt T5.out); clear T4; clear T5; clear B; have T4 := n4_; have T5 := n5_; have B := nb_; have T6 := Aside0.mk hx6; clear hx6 hl6 hb6 nb_ n4_ n5_) | ((with_reducible refine gate_dst (N := 7) rfl ?_); refine zX (N := 7) (cs := #[.slice none 0 0, .slice none 0 0]) (t := 53) ?_; intro b7 hb7 w7 hx7 hl7; have n4_ := Aside0.mk (blk_below T4.out hl7); have n5_ := Aside0.mk (blk_below T5.out hl7); have n6_ := Aside0.mk (blk_below T6.out hl7); have nb_ := Aside0.mk (below_then B.out B.out.size hl7); have L7 := Aside0.mk (show b6 < b7 from by rw [hb7]; exact blk_lt T6.out); clear T4; clear T5; clear T6; clear B; have T4 := n4_; have T5 := n5_; have T6 := n6_; have B := nb_; have T7 := Aside0.mk hx7; clear hx7 hl7 hb7 nb_ n4_ n5_ n6_; have hne := Ne.symm (Nat.ne_of_lt L7.out); have hne' := Nat.ne_of_lt L7.out; have hz6_0 : w7.cell? ⟨b6, 0, none⟩ = some (.slice none 0 0) := (blk_cell T6.out 0).trans rfl; have hz6_1 : w7.cell? ⟨b6, 1, none⟩ = some (.slice none 0 0) := (blk_cell T6.out 1).trans rfl; have hf6_0 := blk_frozen T6.out 0; have hf6_1 := blk_frozen T6.out 1; have hz7_0 : w7.cell? ⟨b7, 0, none⟩ = some (.slice none 0 0) := (blk_cell T7.out 0).trans rfl; have hz7_1 : w7.cell? ⟨b7, 1, none⟩ = some (.slice none 0 0) := (blk_cell T7.out 1).trans rfl; have hf7_0 := blk_frozen T7.out 0; have hf7_1 := blk_frozen T7.out 1))
  go_loopg [15] l0.length (fun kq v15 wr => ∃ (i : Nat) (pv qv : Value) (P Q : Nat → Prop), i ≤ l0.length ∧ l0.length - i ≤ kq ∧ v15 = .int .i64 i ∧ Aside0 (wr.heap[b4]? = some (.cells #[.slice none 0 0, .slice none 0 0] 53 (0, 0))) ∧ Aside0 (wr.heap[b5]? = some (.cells #[.slice none 0 0, .slice none 0 0] 53 (0, 0))) ∧ Aside0 (wr.heap[b6]? = some (.cells #[.slice none 0 0, pv] 53 (0, 0))) ∧ Aside0 (wr.heap[b7]? = some (.cells #[.slice none 0 0, qv] 53 (0, 0))) ∧ Aside0 (Kd.S (Kd.slice 3 (Kd.int .i64)) 22 wr w.heap.size P pv (bothAt l0 (fun k => rd l1 (k : Int)) i).1) ∧ Aside0 (Kd.S (Kd.slice 3 (Kd.int .i64)) 22 wr w.heap.size Q qv (bothAt l0 (fun k => rd l1 (k : Int)) i).2) ∧ Aside0 (∀ k, P k → b7 < k ∧ ¬ Q k) ∧ Aside0 (∀ k, Q k → b7 < k) ∧ Aside0 (Below w.heap.size w wr))
  case atStart =>
    have o4 := L4.out; have o5 := L5.out; have o6 := L6.out; have o7 := L7.out
    refine ⟨0, .slice none 0 0, .slice none 0 0, fun _ => False, fun _ => False, Nat.zero_le _, by omega, rfl, ?_, ?_, ?_, ?_, ⟨Kd.S_nil _ _ _ _ _⟩, ⟨Kd.S_nil _ _ _ _ _⟩, ⟨fun _ h => h.elim⟩, ⟨fun _ h => h.elim⟩, ?_⟩
    · exact ⟨blk_far (blk_far (blk_far (blk_far T4.out (show b4 ≠ b6 by omega) _) (show b4 ≠ b6 by omega) _) (show b4 ≠ b7 by omega) _) (show b4 ≠ b7 by omega) _⟩
    · exact ⟨blk_far (blk_far (blk_far (blk_far T5.out (show b5 ≠ b6 by omega) _) (show b5 ≠ b6 by omega) _) (show b5 ≠ b7 by omega) _) (show b5 ≠ b7 by omega) _⟩
    · exact ⟨blk_far (blk_far (blk_put (cs' := #[.slice none 0 0, .slice none 0 0]) (blk_put (cs' := #[.slice none 0 0, .slice none 0 0]) T6.out 0 _ rfl) 1 _ rfl) (show b6 ≠ b7 by omega) _) (show b6 ≠ b7 by omega) _⟩
    · exact ⟨blk_put (cs' := #[.slice none 0 0, .slice none 0 0]) (blk_put (cs' := #[.slice none 0 0, .slice none 0 0]) (blk_far (blk_far T7.out (show b7 ≠ b6 by omega) _) (show b7 ≠ b6 by omega) _) 0 _ rfl) 1 _ rfl⟩
    · exact ⟨below_set (below_set (below_set (below_set B.out (show w.heap.size ≤ b6 by omega)) (show w.heap.size ≤ b6 by omega)) (show w.heap.size ≤ b7 by omega)) (show w.heap.size ≤ b7 by omega)⟩
  case round =>
    clear hz6_0 hz6_1 hz7_0 hz7_1 hf6_0 hf6_1 hf7_0 hf7_1 T4 T5 T6 T7 B
    obtain ⟨i, pv, qv, P, Q, hi, hg, rfl, T4, T5, T6, T7, SP, SQ, HP, HQ, HB⟩ := hrel
    by_cases hlt : i < l0.length
    · have hltz : (i : Int) < (l0.length : Int) := by omega
      obtain ⟨ad0, rfl, hx0⟩ := Kd.at_int (Kd.C_below HR0.out HB.out) (i : Int) (by omega) hltz
      rw [Int.toNat_natCast] at hx0
      obtain ⟨x, hxx⟩ : ∃ x, x = rd l0 (i : Int) := ⟨_, rfl⟩
      rw [← hxx] at hx0
      have XX := Aside0.mk hxx
      have IV := Aside0.mk (both_inv l0 (fun k => rd l1 (k : Int)) i)
      obtain ⟨p, hp⟩ : ∃ p, p = (bothAt l0 (fun k => rd l1 (k : Int)) i).1 := ⟨_, rfl⟩
      obtain ⟨q, hq⟩ : ∃ q, q = (bothAt l0 (fun k => rd l1 (k : Int)) i).2 := ⟨_, rfl⟩
      rw [← hp, ← hq] at IV
      rw [← hp] at SP
      rw [← hq] at SQ
      have PP := Aside0.mk hp
      have QQ := Aside0.mk hq
      clear hp hq hxx
      obtain ⟨ad1, rfl, _⟩ := Kd.at_int HR1.out (i : Int) (by omega) (by have := HLL.out; omega)
      have IC := Aside0.mk (insert_calls w wr b6 (.slice none 0 0) pv p x P HB.out T6.out (by have o4 := L4.out; have o5 := L5.out; have o6 := L6.out; have o7 := L7.out; omega) SP.out (by have := IV.out.2.1; have := HL.out; omega) (fun r hr => by have := IV.out.2.2.1 r hr; have := HL.out; omega))
      have SQ0 := Aside0.mk (Kd.S_mono (ok' := fun k => Q k ∧ k < wr.heap.size) (Kd.S_bound SQ.out) (fun k hk => ⟨hk.1, hk.2.2.1⟩))
      obtain ⟨Aq, cq, eq_⟩ := Kd.R_slice (Kd.S_R SQ.out)
      subst eq_
      have RL := Aside0.mk (insAt_le p x)
      obtain ⟨r, hr_⟩ : ∃ r, r = insAt p x := ⟨_, rfl⟩
      rw [← hr_] at IC RL
      have RR := Aside0.mk hr_
      clear hr_ SQ
      have ZB := Aside0.mk (blk_lt T7.out)
      have hlz1 : (i : Int) < (l1.length : Int) := by have := HLL.out; omega
      by_cases hrq : r = q.length
      · have hrb : ((r : Int) == (q.length : Int)) = true := beq_iff_eq.mpr (by omega)
        have RQ := Aside0.mk hrq
        clear hrq
        go_wp2_with (first | (go_at_call 71; refine IC.out.mono ?_; rintro e w6 ⟨rfl, ⟨pv', hT6, hS6⟩, hB6, hK6⟩; have K6 := Aside0.mk hK6; clear hK6; have m4 := Aside0.mk ((K6.out.2 b4 (blk_lt T4.out) (fun h => by have o4 := L4.out; have o5 := L5.out; have o6 := L6.out; have o7 := L7.out; rcases h with h | h; have := (HP.out _ h).1; omega; omega)).trans T4.out); have m5 := Aside0.mk ((K6.out.2 b5 (blk_lt T5.out) (fun h => by have o4 := L4.out; have o5 := L5.out; have o6 := L6.out; have o7 := L7.out; rcases h with h | h; have := (HP.out _ h).1; omega; omega)).trans T5.out); have m7 := Aside0.mk ((K6.out.2 b7 (blk_lt T7.out) (fun h => by have o4 := L4.out; have o5 := L5.out; have o6 := L6.out; have o7 := L7.out; rcases h with h | h; have := (HP.out _ h).1; omega; omega)).trans T7.out); have m6 := Aside0.mk hT6; have mP := Aside0.mk (Kd.S_mono (ok' := fun k => (P k ∨ wr.heap.size ≤ k) ∧ k < w6.heap.size) (Kd.S_bound hS6) (fun k hk => ⟨hk.1, hk.2.2.1⟩)); have mQ := Aside0.mk (S_carry SQ0.out K6.out (fun k hk h => by have o4 := L4.out; have o5 := L5.out; have o6 := L6.out; have o7 := L7.out; rcases h with h | h; exact (HP.out _ h).2 hk.1; have := HQ.out _ hk.1; omega)); have mB := Aside0.mk hB6; have zw := Aside0.mk K6.out.1; clear hT6 hS6 hB6 T4 T5 T6 T7 SP SQ0; have hz7_1 : w6.cell? ⟨b7, 1, none⟩ = some (.slice Aq q.length cq) := (blk_cell m7.out 1).trans rfl; have hf7_1 := blk_frozen m7.out 1) | ((with_reducible refine gate_builtin (b := .append) (xs := #[.tmp 28, .tmp 29]) rfl ?_); at_builtin; refine Kd.S_append (Kd.slice 3 (Kd.int .i64)) (w0 := w) w.heap.size rfl (.tmp 28) (.tmp 29) 23 22 (.slice none 0 0) 24 rfl Tryd.underlying23 info22 rfl (by decide) (by omega) (.slice Aq q.length cq) q [] [.slice none 0 0] (fun k => (Q k ∧ k < wr.heap.size) ∨ w6.heap.size ≤ k) (fun _ => False) rfl rfl ?aM (fun _ h => h.elim) ?aF ?aO ?aB ?aS ?aL ?_; (case aM => exact ⟨_, rfl, Kd.R_nil _ _ _ _ _⟩); (case aF => exact fun k hk => .inr hk); (case aO => exact Kd.S_mono mQ.out (fun k hk => ⟨.inl hk, fun h => h⟩)); (case aB => exact mB.out); (case aS => exact mB.out.size); (case aL => have := IV.out; have := HL.out; omega); intro qv7 w8 ho hb hg hat; obtain ⟨Aq2, cq2, eq_⟩ := Kd.R_slice (Kd.S_R ho); subst eq_; have K8 := Aside0.mk (Kept.of_grown hg (Kept.refl w6 (fun k => Q k ∧ k < wr.heap.size)) (fun k e => .inl ((Kd.S_R mQ.out).1 k e))); have n4 := Aside0.mk ((K8.out.2 b4 (blk_lt m4.out) (fun h => by have o4 := L4.out; have o5 := L5.out; have o6 := L6.out; have o7 := L7.out; have := HQ.out _ h.1; omega)).trans m4.out); have n5 := Aside0.mk ((K8.out.2 b5 (blk_lt m5.out) (fun h => by have o4 := L4.out; have o5 := L5.out; have o6 := L6.out; have o7 := L7.out; have := HQ.out _ h.1; omega)).trans m5.out); have n6 := Aside0.mk ((K8.out.2 b6 (blk_lt m6.out) (fun h => by have o4 := L4.out; have o5 := L5.out; have o6 := L6.out; have o7 := L7.out; have := HQ.out _ h.1; omega)).trans m6.out); have n7 := Aside0.mk ((K8.out.2 b7 (blk_lt m7.out) (fun h => by have o4 := L4.out; have o5 := L5.out; have o6 := L6.out; have o7 := L7.out; have := HQ.out _ h.1; omega)).trans m7.out); have nP := Aside0.mk (S_carry mP.out K8.out (fun k hk h => by rcases hk.1 with h2 | h2; exact (HP.out _ h2).2 h.1; have := h.2; omega)); have nQ := Aside0.mk ho; have nB := Aside0.mk hb; clear ho hb hg hat; have hy7_1 : w8.cell? ⟨b7, 1, none⟩ = some (.slice Aq q.length cq) := (blk_cell n7.out 1).trans rfl; have hg7_1 := blk_frozen n7.out 1))
        have o4 := L4.out; have o5 := L5.out; have o6 := L6.out; have o7 := L7.out
        have T4 := Aside0.mk (blk_far (p := ⟨b7, 1, none⟩) n4.out (show b4 ≠ b7 by omega) (.slice Aq2 (q.length + 1) cq2))
        have T5 := Aside0.mk (blk_far (p := ⟨b7, 1, none⟩) n5.out (show b5 ≠ b7 by omega) (.slice Aq2 (q.length + 1) cq2))
        have T6 := Aside0.mk (blk_far (p := ⟨b7, 1, none⟩) n6.out (show b6 ≠ b7 by omega) (.slice Aq2 (q.length + 1) cq2))
        have T7_ := Aside0.mk (blk_put (cs' := #[.slice none 0 0, .slice Aq2 (q.length + 1) cq2]) n7.out 1 (.slice Aq2 (q.length + 1) cq2) rfl)
        have SP_ := Aside0.mk (Kd.S_far (p := ⟨b7, 1, none⟩) nP.out (fun k hk e => by have e2_ : k = b7 := e; rcases hk.1 with h | h; have := (HP.out k h).1; omega; have := hk.2; have := blk_lt m7.out; have := zw.out; have := blk_lt (m7.out); have hz : b7 < wr.heap.size := ZB.out; omega) (.slice Aq2 (q.length + 1) cq2))
        have SQ_ := Aside0.mk (Kd.S_far (p := ⟨b7, 1, none⟩) nQ.out (fun k hk e => by have e2_ : k = b7 := e; rcases hk with h | h; have := HQ.out k h.1; omega; have := blk_lt m7.out; omega) (.slice Aq2 (q.length + 1) cq2))
        have B := Aside0.mk (below_set (j := 1) (v := .slice Aq2 (q.length + 1) cq2) nB.out (show w.heap.size ≤ b7 by omega))
        have zz := Aside0.mk (show w6.heap.size ≤ (w8.setCell ⟨b7, 1, none⟩ (.slice Aq2 (q.length + 1) cq2)).heap.size from Nat.le_trans K8.out.1 (Kept.setCell (Kept.refl w8 (fun _ => True)) (p := ⟨b7, 1, none⟩) (.inl trivial) _).1)
        have m7z := Aside0.mk (blk_lt m7.out)
        clear hz7_1 hf7_1 hy7_1 hg7_1
        generalize w8.setCell ⟨b7, 1, none⟩ (.slice Aq2 (q.length + 1) cq2) = wz at T4 T5 T6 T7_ SP_ SQ_ B zz ⊢
        have T7q : Aside0 (wz.heap[b7]? = some (.cells #[.slice none 0 0, .slice Aq2 (q ++ [[]]).length cq2] 53 (0, 0))) := ⟨by rw [show (q ++ [([] : List Int)]).length = q.length + 1 by simp]; exact T7_.out⟩
        have ST : ∃ (P2 Q2 : Nat → Prop) (q2 : List (List Int)) (A2 : Option Addr) (c2 : Nat), Aside0 (wz.heap[b7]? = some (.cells #[.slice none 0 0, .slice A2 q2.length c2] 53 (0, 0))) ∧ Aside0 (Kd.S (Kd.slice 3 (Kd.int .i64)) 22 wz w.heap.size P2 pv' (insRows p x)) ∧ Aside0 (Kd.S (Kd.slice 3 (Kd.int .i64)) 22 wz w.heap.size Q2 (.slice A2 q2.length c2) q2) ∧ Aside0 (∀ k, P2 k → b7 < k ∧ ¬ Q2 k ∧ k < wz.heap.size) ∧ Aside0 (∀ k, Q2 k → b7 < k) ∧ Aside0 (r < q2.length) ∧ Aside0 (q2.length ≤ i + 1) ∧ Aside0 (∀ s ∈ q2, s.length ≤ i) ∧ Aside0 (∀ n, recQ q r n = q2.set r (q2.getD r [] ++ [n])) := by
          refine ⟨_, _, q ++ [[]], _, _, T7q, SP_, SQ_, ⟨?_⟩, ⟨?_⟩, ⟨?_⟩, ⟨?_⟩, ⟨?_⟩, ⟨?_⟩⟩
          · rintro k ⟨hk1, hk2⟩; have z1 := zz.out; have z2 := ZB.out; refine ⟨?_, fun h => ?_, by omega⟩; (rcases hk1 with h | h; exact (HP.out k h).1; omega); (rcases h with h | h; (rcases hk1 with h2 | h2; exact (HP.out k h2).2 h.1; have := h.2; omega); omega)
          · rintro k (h | h); exact HQ.out k h.1; have := m7z.out; omega
          · simp only [List.length_append, List.length_cons, List.length_nil]; have := RQ.out; omega
          · simp only [List.length_append, List.length_cons, List.length_nil]; have := IV.out.1; have := IV.out.2.1; omega
          · intro s hs; rcases List.mem_append.1 hs with h | h; exact IV.out.2.2.2 s h; (obtain rfl : s = [] := by simpa using h); simp
          · intro n; unfold recQ; rw [if_pos RQ.out]
        obtain ⟨P2, Q2, q2, A2, c2, T7, SP, SQ, DP, DQ, RQ2, QL, QB, RC⟩ := ST
        have HRQ := RQ2.out
        obtain ⟨g, cc, e0⟩ : ∃ g cc, (Value.slice A2 q2.length c2) = .slice (some ⟨g, 0, none⟩) q2.length cc := by
          obtain ⟨g, cc, e0, _⟩ := Kd.R_form (Kd.S_R SQ.out) (by omega)
          injection e0 with ea el ec
          exact ⟨g, c2, by rw [ea]⟩
        injection e0 with ea _ ec
        subst ea ec
        have GB := Aside0.mk (Kd.R_base (Kd.S_R SQ.out) g (by simp [Value.ownBlock]))
        have GQ := Aside0.mk ((Kd.S_R SQ.out).1 g (by simp [Value.ownBlock]))
        have G7 := Aside0.mk (DQ.out g GQ.out)
        have T4 := Aside0.mk (blk_drew T4.out)
        have T5 := Aside0.mk (blk_drew T5.out)
        have T6 := Aside0.mk (blk_drew T6.out)
        have T7 := Aside0.mk (blk_drew T7.out)
        have SP := Aside0.mk (Kd.S_drew SP.out)
        have B := Aside0.mk (below_drew B.out)
        have DP : Aside0 (∀ k, P2 k → b7 < k ∧ ¬ Q2 k ∧ k < wz.drew.heap.size) := ⟨DP.out⟩
        have DZ : Aside0 (b7 < wz.drew.heap.size) := ⟨blk_lt T7.out⟩
        obtain ⟨oki, cs, hcl, hM, hcc, hfr, hoki, hH⟩ := Kd.S_elem (Kd.S_drew SQ.out) [] (r : Int) (by omega) (by omega)
        rw [Int.toNat_natCast] at hM
        obtain ⟨v, rfl, hR⟩ := hM
        obtain ⟨Ar, cr, e1⟩ := Kd.R_slice hR
        subst e1
        have hx1 := hcc 0 _ rfl
        rw [show (r : Int).toNat * (Kd.slice 3 (Kd.int .i64)).sz + 0 = r from by show (r : Int).toNat * 1 + 0 = r; omega] at hx1
        obtain ⟨row, hrow⟩ : ∃ row, row = q2.getD r [] := ⟨_, rfl⟩
        rw [← hrow] at hx1 hR hH
        have hrl : row.length ≤ 900 := by
          have := HL.out
          rw [hrow, List.getD_eq_getElem?_getD, List.getElem?_eq_getElem HRQ]
          have := QB.out _ (List.getElem_mem HRQ)
          simp only [Option.getD_some]; omega
        have ROW := Aside0.mk hrow
        have RO := Aside0.mk hR
        have HO := Aside0.mk hoki
        have HH := Aside0.mk hH
        clear hrow hR hoki hH hcc hfr hcl SQ
        obtain ⟨ad2, e2_, hn1⟩ := Kd.at_int (Kd.C_below HR1.out B.out) (i : Int) (by omega) hlz1
        cases e2_
        rw [Int.toNat_natCast] at hn1
        obtain ⟨n, hn_⟩ : ∃ n, n = rd l1 (i : Int) := ⟨_, rfl⟩
        rw [← hn_] at hn1
        have NN_ := Aside0.mk hn_
        clear hn_
        have hrz : (r : Int) < (q2.length : Int) := by omega
        refine start_ (n := 16) (S := fun w' => w'.cell? ⟨b7, 1, none⟩ = some (.slice (some ⟨g, 0, none⟩) q2.length c2) ∧ w'.cell? ⟨g, r, none⟩ = some (.slice Ar row.length cr) ∧ w'.cell? (ad1.add i) = some (.int .i64 n)) (ds := [15]) zB6_0 (by kernel_rfl) rfl rfl ⟨(blk_cell T7.out 1).trans rfl, hx1, hn1⟩ (fun hHeld => ?_)
        refine with_tabW insertedWith8.tab insertedWith8.bits (fun HT_ HW_ => ?_)
        generalize wz.drew = wd at T4 T5 T6 T7 SP B DP DZ RO HH hx1 hn1 hHeld ⊢
        refine pure_ (i := 0) (N := some 32) (v := ?_) (a' := ?_) zB6_1 rfl rfl (any_of HT_.out (by kernel_rfl)) (fun _ _ _ h => h) (Or.inl ⟨by rfl, ?_⟩) ?_ ?_
        rotate_left
        · intro w'
          go_simp
          with_reducible rfl
        rotate_left
        · simp only [Act.put, List.setIfInBounds_toArray, List.set_cons_zero, List.set_cons_succ, i64_w, i32_w]
          rfl
        refine pure_ (i := 2) (N := some 34) (v := ?_) (a' := ?_) zB6_2 rfl rfl (any_of HT_.out (by kernel_rfl)) (fun _ _ _ h => h) (Or.inl ⟨by rfl, ?_⟩) ?_ ?_
        rotate_left
        · intro w'
          go_simp
          with_reducible rfl
        rotate_left
        · simp only [Act.put, List.setIfInBounds_toArray, List.set_cons_zero, List.set_cons_succ, i64_w, i32_w]
          rfl
        refine pure_ (i := 3) (N := some 35) (v := ?_) (a' := ?_) zB6_3 rfl rfl (any_of HT_.out (by kernel_rfl)) (fun _ _ _ h => h) (Or.inl ⟨by rfl, ?_⟩) ?_ ?_
        rotate_left
        · intro w'
          go_simp
          with_reducible rfl
        rotate_left
        · simp only [Act.put, List.setIfInBounds_toArray, List.set_cons_zero, List.set_cons_succ, i64_w, i32_w]
          rfl
        refine pure_ (i := 5) (N := some 37) (v := ?_) (a' := ?_) zB6_4 rfl rfl (any_of HT_.out (by kernel_rfl)) (fun _ _ _ h => h) (Or.inl ⟨by rfl, ?_⟩) ?_ ?_
        rotate_left
        · intro w'
          go_simp
          with_reducible rfl
        rotate_left
        · simp only [Act.put, List.setIfInBounds_toArray, List.set_cons_zero, List.set_cons_succ, i64_w, i32_w]
          rfl
        refine pure_ (i := 8) (N := some 40) (v := ?_) (a' := ?_) zB6_5 rfl rfl (any_of HT_.out (by kernel_rfl)) (fun _ _ _ h => h) (Or.inl ⟨by rfl, ?_⟩) ?_ ?_
        rotate_left
        · intro w'
          go_simp
          with_reducible rfl
        rotate_left
        · simp only [Act.put, List.setIfInBounds_toArray, List.set_cons_zero, List.set_cons_succ, i64_w, i32_w]
          rfl
        refine pure_ (i := 9) (N := some 41) (v := ?_) (a' := ?_) zB6_6 rfl rfl (any_of HT_.out (by kernel_rfl)) (fun _ _ _ h => h) (Or.inl ⟨by rfl, ?_⟩) ?_ ?_
        rotate_left
        · intro w'
          go_simp
          with_reducible rfl
        rotate_left
        · simp only [Act.put, List.setIfInBounds_toArray, List.set_cons_zero, List.set_cons_succ, i64_w, i32_w]
          rfl
        refine pure_ (i := 10) (N := some 42) (v := ?_) (a' := ?_) zB6_7 rfl rfl (any_of HT_.out (by kernel_rfl)) (fun _ _ _ h => h) (Or.inl ⟨by rfl, ?_⟩) ?_ ?_
        rotate_left
        · intro w'
          go_simp
          with_reducible rfl
        rotate_left
        · simp only [Act.put, List.setIfInBounds_toArray, List.set_cons_zero, List.set_cons_succ, i64_w, i32_w]
          rfl
        refine take_ (i := 1) (N := some 33) (v := ?_) (a' := ?_) zB6_8 rfl rfl (take_ofW HT_.out HW_.out (by kernel_rfl)) (fun _ _ _ h => h) (Or.inl ⟨by rfl, ?_⟩) hHeld ?_ ?_
        rotate_left
        · rintro w' ⟨s0, s1, s2⟩
          go_simp
          with_reducible rfl
        rotate_left
        · simp only [Act.put, List.setIfInBounds_toArray, List.set_cons_zero, List.set_cons_succ, i64_w, i32_w]
          rfl
        refine take_ (i := 4) (N := some 36) (v := ?_) (a' := ?_) zB6_9 rfl rfl (take_ofW HT_.out HW_.out (by kernel_rfl)) (fun _ _ _ h => h) (Or.inl ⟨by rfl, ?_⟩) hHeld ?_ ?_
        rotate_left
        · rintro w' ⟨s0, s1, s2⟩
          go_simp
          with_reducible rfl
        rotate_left
        · simp only [Act.put, List.setIfInBounds_toArray, List.set_cons_zero, List.set_cons_succ, i64_w, i32_w]
          rfl
        refine pure_ (i := 6) (N := some 38) (v := ?_) (a' := ?_) zB6_10 rfl rfl (any_of HT_.out (by kernel_rfl)) (fun _ _ _ h => h) (Or.inl ⟨by rfl, ?_⟩) ?_ ?_
        rotate_left
        · intro w'
          go_simp
          with_reducible rfl
        rotate_left
        · simp only [Act.put, List.setIfInBounds_toArray, List.set_cons_zero, List.set_cons_succ, i64_w, i32_w]
          rfl
        refine take_ (i := 7) (N := some 39) (v := ?_) (a' := ?_) zB6_11 rfl rfl (take_ofW HT_.out HW_.out (by kernel_rfl)) (fun _ _ _ h => h) (Or.inl ⟨by rfl, ?_⟩) hHeld ?_ ?_
        rotate_left
        · rintro w' ⟨s0, s1, s2⟩
          go_simp
          with_reducible rfl
        rotate_left
        · simp only [Act.put, List.setIfInBounds_toArray, List.set_cons_zero, List.set_cons_succ, i64_w, i32_w]
          rfl
        refine take_ (i := 11) (N := some 43) (v := ?_) (a' := ?_) zB6_12 rfl rfl (take_ofW HT_.out HW_.out (by kernel_rfl)) (fun _ _ _ h => h) (Or.inl ⟨by rfl, ?_⟩) hHeld ?_ ?_
        rotate_left
        · rintro w' ⟨s0, s1, s2⟩
          go_simp
          with_reducible rfl
        rotate_left
        · simp only [Act.put, List.setIfInBounds_toArray, List.set_cons_zero, List.set_cons_succ, i64_w, i32_w]
          rfl
        refine one_ (i := 12) (N := some 44) zB6_13 rfl rfl (one_of HT_.out (by kernel_rfl)) (by decide) (fun K hK => ?_)
        refine value_ (w1 := ?_) (v := ?_) (by rfl) rfl ?_ ?_
        rotate_left 2
        · go_simp
          constructor
          · rfl
          · rfl
        refine hK.out _ _ ⟨(blk_cell (blk_alloc T7.out _) 1).trans rfl, (World.cell?_alloc_lt _ _ _ (World.block_lt_of_cell? _ _ (hHeld.2.1))).trans (hHeld.2.1), (World.cell?_alloc_lt _ _ _ (World.block_lt_of_cell? _ _ (hHeld.2.2))).trans (hHeld.2.2)⟩ (fun hHeld => ?_)
        clear hK K
        refine norm_ (a' := ?_) ?_ ?_
        rotate_left
        · show Act.put _ (some 44) _ = _
          simp only [Act.put, List.setIfInBounds_toArray, List.set_cons_zero, List.set_cons_succ, i64_w, i32_w]
          rfl
        refine one_ (i := 13) (N := some 45) zB6_14 rfl rfl (one_of HT_.out (by kernel_rfl)) (by decide) (fun K hK => ?_)
        refine Kd.R_append_step (Kd.int .i64) (w0 := w) w.heap.size (by rfl) (.tmp 39) (.tmp 44) 22 3 (.int .i64 0) 8 rfl Tryd.underlying22 info3 rfl (by decide) (by omega) (.slice Ar row.length cr) row n [.int .i64 n] (fun k => oki k ∨ (Q2 k ∨ wd.heap.size ≤ k) ∧ wd.heap.size ≤ k) (fun _ => False) rfl rfl ?aP (fun _ hk => hk.elim) ?aF ?aO ?aB ?aS ?aL ?_
        (case aP => exact rfl)
        (case aB => exact B.out)
        (case aF => exact fun k hk => .inr ⟨.inr hk, hk⟩)
        (case aO => exact Kd.R_mono RO.out (fun _ hk => .inl hk))
        (case aS => exact B.out.size)
        (case aL => omega)
        intro v9 w9 ho hb hg hat
        have K9 := Aside0.mk (Kept.of_grown hg (Kept.refl wd Q2) (fun k e => .inl (HO.out k (RO.out.1 k e)).1))
        have ZW := Aside0.mk K9.out.1
        have T4 := Aside0.mk ((K9.out.2 b4 (blk_lt T4.out) (fun h => by have o4 := L4.out; have o5 := L5.out; have o6 := L6.out; have o7 := L7.out; have := DQ.out _ h; omega)).trans T4.out)
        have T5 := Aside0.mk ((K9.out.2 b5 (blk_lt T5.out) (fun h => by have o4 := L4.out; have o5 := L5.out; have o6 := L6.out; have o7 := L7.out; have := DQ.out _ h; omega)).trans T5.out)
        have T6 := Aside0.mk ((K9.out.2 b6 (blk_lt T6.out) (fun h => by have o4 := L4.out; have o5 := L5.out; have o6 := L6.out; have o7 := L7.out; have := DQ.out _ h; omega)).trans T6.out)
        have T7 := Aside0.mk ((K9.out.2 b7 (blk_lt T7.out) (fun h => by have o4 := L4.out; have o5 := L5.out; have o6 := L6.out; have o7 := L7.out; have := DQ.out _ h; omega)).trans T7.out)
        have SP := Aside0.mk (S_carry SP.out K9.out (fun k hk h => (DP.out k hk).2.1 h))
        have H9 := Aside0.mk (Kd.H_grown (Kd.H_widen (Kd.H_mono HH.out (fun k hk => (.inl hk : Q2 k ∨ wd.heap.size ≤ k)))) hg (fun k e => .inl (RO.out.1 k e)))
        have B := Aside0.mk hb
        obtain ⟨Ao, co, eo⟩ := Kd.R_slice ho
        subst eo
        have R9 := Aside0.mk ho
        obtain ⟨hc9, hf9⟩ := Kd.H_at H9.out (show (0 : Int) ≤ (r : Int) by omega) (show (r : Int) < (q2.length : Int) by omega)
        have hx9 := hc9 0 _ rfl
        have hy9 := hf9 0
        rw [show (r : Int).toNat * (Kd.slice 3 (Kd.int .i64)).sz + 0 = r from by show (r : Int).toNat * 1 + 0 = r; omega] at hx9 hy9
        clear ho hb hg hat hc9 hf9
        obtain ⟨ad3, e3_, hn9⟩ := Kd.at_int (Kd.C_below HR1.out B.out) (i : Int) (by omega) hlz1
        cases e3_
        rw [Int.toNat_natCast, ← NN_.out] at hn9
        refine hK.out _ _ ⟨(blk_cell T7.out 1).trans rfl, hx9, hn9⟩ (fun hHeld => ?_)
        clear hK K
        refine norm_ (a' := ?_) ?_ ?_
        rotate_left
        · show Act.put _ (some 45) _ = _
          simp only [Act.put, List.setIfInBounds_toArray, List.set_cons_zero, List.set_cons_succ, i64_w, i32_w]
          rfl
        refine pure_ (i := 14) (N := some 46) (v := ?_) (a' := ?_) zB6_15 rfl rfl (any_of HT_.out (by kernel_rfl)) (fun _ _ _ h => h) (Or.inl ⟨by rfl, ?_⟩) ?_ ?_
        rotate_left
        · intro w'
          go_simp
          with_reducible rfl
        rotate_left
        · simp only [Act.put, List.setIfInBounds_toArray, List.set_cons_zero, List.set_cons_succ, i64_w, i32_w]
          rfl
        refine last_ (i := 15) (N := none) zB6_16 rfl rfl (one_of HT_.out (by kernel_rfl)) (by decide) (fun K hK => ?_)
        refine skip_ (w1 := ?_) (by rfl) rfl ?_ ?_
        rotate_left
        · go_simp
          rfl
        refine hK.out _ _ ?_
        clear hK K
        refine done_ (done_of HT_.out (by kernel_rfl)) ?_
        have SF := Aside0.mk (Kd.S_seg0 H9.out (show (0 : Int) ≤ (r : Int) by omega) (show (r : Int) < (q2.length : Int) by omega) (seg := [.slice Ao (row ++ [n]).length co]) (j := 0) (show 1 ≤ 1 from by decide) (x' := row ++ [n]) (Kd.M_row R9.out) (fun _ hk => hk)).1
        rw [show (r : Int).toNat * (Kd.slice 3 (Kd.int .i64)).sz + 0 = r from by show (r : Int).toNat * 1 + 0 = r; omega, Int.toNat_natCast, show (row ++ [n]).length = row.length + 1 by simp] at SF
        have T4 := Aside0.mk (blk_far (p := ⟨g, r, none⟩) T4.out (show b4 ≠ g by have o4 := L4.out; have o5 := L5.out; have o6 := L6.out; have o7 := L7.out; have := G7.out; omega) (.slice Ao (row.length + 1) co))
        have T5 := Aside0.mk (blk_far (p := ⟨g, r, none⟩) T5.out (show b5 ≠ g by have o4 := L4.out; have o5 := L5.out; have o6 := L6.out; have o7 := L7.out; have := G7.out; omega) (.slice Ao (row.length + 1) co))
        have T6 := Aside0.mk (blk_far (p := ⟨g, r, none⟩) T6.out (show b6 ≠ g by have o4 := L4.out; have o5 := L5.out; have o6 := L6.out; have o7 := L7.out; have := G7.out; omega) (.slice Ao (row.length + 1) co))
        have T7 := Aside0.mk (blk_far (p := ⟨g, r, none⟩) T7.out (show b7 ≠ g by have o4 := L4.out; have o5 := L5.out; have o6 := L6.out; have o7 := L7.out; have := G7.out; omega) (.slice Ao (row.length + 1) co))
        have SP := Aside0.mk (Kd.S_far (p := ⟨g, r, none⟩) SP.out (fun k hk e => (DP.out k hk).2.1 (by rw [e]; exact GQ.out)) (.slice Ao (row.length + 1) co))
        have B := Aside0.mk (below_set (j := r) (v := .slice Ao (row.length + 1) co) B.out GB.out)
        have E1 : (bothAt l0 (fun k => rd l1 (k : Int)) (i + 1)).1 = insRows p x := by show insRows _ _ = _; rw [← PP.out, ← XX.out]
        have E2 : (bothAt l0 (fun k => rd l1 (k : Int)) (i + 1)).2 = q2.set r (row ++ [n]) := by show recQ _ _ _ = _; rw [← PP.out, ← QQ.out, ← XX.out, ← RR.out, RC.out, ← ROW.out]; rw [NN_.out]
        rw [← E1] at SP
        rw [← E2] at SF
        have DF : Aside0 (∀ k, P2 k → b7 < k ∧ ¬ (Q2 k ∨ wd.heap.size ≤ k)) := ⟨fun k hk => ⟨(DP.out k hk).1, fun h => by rcases h with h | h; exact (DP.out k hk).2.1 h; have := (DP.out k hk).2.2; omega⟩⟩
        have DG : Aside0 (∀ k, (Q2 k ∨ wd.heap.size ≤ k) → b7 < k) := ⟨fun k hk => by rcases hk with h | h; exact DQ.out k h; have := DZ.out; omega⟩
        have HL2 := HL.out
        clear E1 E2
        go_wp2
        go_roundg (l0.length - (i + 1))
        all_goals first
          | omega
          | exact ⟨i + 1, pv', .slice (some ⟨g, 0, none⟩) q2.length c2, P2, (fun k => Q2 k ∨ wd.heap.size ≤ k), by omega, by omega, by go_num, T4, T5, T6, T7, SP, SF, DF, DG, B⟩
      · have hrb : ((r : Int) == (q.length : Int)) = false := beq_eq_false_iff_ne.mpr (by omega)
        have RQ := Aside0.mk (show r < q.length from by have := RL.out; have := IV.out.1; omega)
        clear hrq
        go_wp2_with (go_at_call 71; refine IC.out.mono ?_; rintro e w6 ⟨rfl, ⟨pv', hT6, hS6⟩, hB6, hK6⟩; have K6 := Aside0.mk hK6; clear hK6; have m4 := Aside0.mk ((K6.out.2 b4 (blk_lt T4.out) (fun h => by have o4 := L4.out; have o5 := L5.out; have o6 := L6.out; have o7 := L7.out; rcases h with h | h; have := (HP.out _ h).1; omega; omega)).trans T4.out); have m5 := Aside0.mk ((K6.out.2 b5 (blk_lt T5.out) (fun h => by have o4 := L4.out; have o5 := L5.out; have o6 := L6.out; have o7 := L7.out; rcases h with h | h; have := (HP.out _ h).1; omega; omega)).trans T5.out); have m7 := Aside0.mk ((K6.out.2 b7 (blk_lt T7.out) (fun h => by have o4 := L4.out; have o5 := L5.out; have o6 := L6.out; have o7 := L7.out; rcases h with h | h; have := (HP.out _ h).1; omega; omega)).trans T7.out); have m6 := Aside0.mk hT6; have mP := Aside0.mk (Kd.S_mono (ok' := fun k => (P k ∨ wr.heap.size ≤ k) ∧ k < w6.heap.size) (Kd.S_bound hS6) (fun k hk => ⟨hk.1, hk.2.2.1⟩)); have mQ := Aside0.mk (S_carry SQ0.out K6.out (fun k hk h => by have o4 := L4.out; have o5 := L5.out; have o6 := L6.out; have o7 := L7.out; rcases h with h | h; exact (HP.out _ h).2 hk.1; have := HQ.out _ hk.1; omega)); have mB := Aside0.mk hB6; have zw := Aside0.mk K6.out.1; clear hT6 hS6 hB6 T4 T5 T6 T7 SP SQ0; have hz7_1 : w6.cell? ⟨b7, 1, none⟩ = some (.slice Aq q.length cq) := (blk_cell m7.out 1).trans rfl; have hf7_1 := blk_frozen m7.out 1)
        have o4 := L4.out; have o5 := L5.out; have o6 := L6.out; have o7 := L7.out
        clear hz7_1 hf7_1
        have T4 := m4
        have T5 := m5
        have T6 := m6
        have B := mB
        have zy := Aside0.mk (blk_lt m7.out)
        clear m4 m5 m6 mB
        obtain ⟨wz, hwz⟩ : ∃ wz, wz = w6 := ⟨_, rfl⟩
        have zz := Aside0.mk (show w6.heap.size ≤ wz.heap.size by rw [hwz]; exact Nat.le_refl _)
        subst hwz
        have ST : ∃ (P2 Q2 : Nat → Prop) (q2 : List (List Int)) (A2 : Option Addr) (c2 : Nat), Aside0 (wz.heap[b7]? = some (.cells #[.slice none 0 0, .slice A2 q2.length c2] 53 (0, 0))) ∧ Aside0 (Kd.S (Kd.slice 3 (Kd.int .i64)) 22 wz w.heap.size P2 pv' (insRows p x)) ∧ Aside0 (Kd.S (Kd.slice 3 (Kd.int .i64)) 22 wz w.heap.size Q2 (.slice A2 q2.length c2) q2) ∧ Aside0 (∀ k, P2 k → b7 < k ∧ ¬ Q2 k ∧ k < wz.heap.size) ∧ Aside0 (∀ k, Q2 k → b7 < k) ∧ Aside0 (r < q2.length) ∧ Aside0 (q2.length ≤ i + 1) ∧ Aside0 (∀ s ∈ q2, s.length ≤ i) ∧ Aside0 (∀ n, recQ q r n = q2.set r (q2.getD r [] ++ [n])) := by
          refine ⟨_, _, q, _, _, m7, mP, mQ, ⟨?_⟩, ⟨?_⟩, ⟨?_⟩, ⟨?_⟩, ⟨?_⟩, ⟨?_⟩⟩
          · rintro k ⟨hk1, hk2⟩; have z2 := ZB.out; refine ⟨?_, fun h => ?_, hk2⟩; (rcases hk1 with h | h; exact (HP.out k h).1; omega); (rcases hk1 with h2 | h2; exact (HP.out k h2).2 h.1; have := h.2; omega)
          · rintro k h; exact HQ.out k h.1
          · exact RQ.out
          · have := IV.out.1; have := IV.out.2.1; omega
          · exact IV.out.2.2.2
          · intro n; unfold recQ; rw [if_neg (by have := RQ.out; omega)]
        obtain ⟨P2, Q2, q2, A2, c2, T7, SP, SQ, DP, DQ, RQ2, QL, QB, RC⟩ := ST
        have HRQ := RQ2.out
        obtain ⟨g, cc, e0⟩ : ∃ g cc, (Value.slice A2 q2.length c2) = .slice (some ⟨g, 0, none⟩) q2.length cc := by
          obtain ⟨g, cc, e0, _⟩ := Kd.R_form (Kd.S_R SQ.out) (by omega)
          injection e0 with ea el ec
          exact ⟨g, c2, by rw [ea]⟩
        injection e0 with ea _ ec
        subst ea ec
        have GB := Aside0.mk (Kd.R_base (Kd.S_R SQ.out) g (by simp [Value.ownBlock]))
        have GQ := Aside0.mk ((Kd.S_R SQ.out).1 g (by simp [Value.ownBlock]))
        have G7 := Aside0.mk (DQ.out g GQ.out)
        have T4 := Aside0.mk (blk_drew T4.out)
        have T5 := Aside0.mk (blk_drew T5.out)
        have T6 := Aside0.mk (blk_drew T6.out)
        have T7 := Aside0.mk (blk_drew T7.out)
        have SP := Aside0.mk (Kd.S_drew SP.out)
        have B := Aside0.mk (below_drew B.out)
        have DP : Aside0 (∀ k, P2 k → b7 < k ∧ ¬ Q2 k ∧ k < wz.drew.heap.size) := ⟨DP.out⟩
        have DZ : Aside0 (b7 < wz.drew.heap.size) := ⟨blk_lt T7.out⟩
        obtain ⟨oki, cs, hcl, hM, hcc, hfr, hoki, hH⟩ := Kd.S_elem (Kd.S_drew SQ.out) [] (r : Int) (by omega) (by omega)
        rw [Int.toNat_natCast] at hM
        obtain ⟨v, rfl, hR⟩ := hM
        obtain ⟨Ar, cr, e1⟩ := Kd.R_slice hR
        subst e1
        have hx1 := hcc 0 _ rfl
        rw [show (r : Int).toNat * (Kd.slice 3 (Kd.int .i64)).sz + 0 = r from by show (r : Int).toNat * 1 + 0 = r; omega] at hx1
        obtain ⟨row, hrow⟩ : ∃ row, row = q2.getD r [] := ⟨_, rfl⟩
        rw [← hrow] at hx1 hR hH
        have hrl : row.length ≤ 900 := by
          have := HL.out
          rw [hrow, List.getD_eq_getElem?_getD, List.getElem?_eq_getElem HRQ]
          have := QB.out _ (List.getElem_mem HRQ)
          simp only [Option.getD_some]; omega
        have ROW := Aside0.mk hrow
        have RO := Aside0.mk hR
        have HO := Aside0.mk hoki
        have HH := Aside0.mk hH
        clear hrow hR hoki hH hcc hfr hcl SQ
        obtain ⟨ad2, e2_, hn1⟩ := Kd.at_int (Kd.C_below HR1.out B.out) (i : Int) (by omega) hlz1
        cases e2_
        rw [Int.toNat_natCast] at hn1
        obtain ⟨n, hn_⟩ : ∃ n, n = rd l1 (i : Int) := ⟨_, rfl⟩
        rw [← hn_] at hn1
        have NN_ := Aside0.mk hn_
        clear hn_
        have hrz : (r : Int) < (q2.length : Int) := by omega
        refine start_ (n := 16) (S := fun w' => w'.cell? ⟨b7, 1, none⟩ = some (.slice (some ⟨g, 0, none⟩) q2.length c2) ∧ w'.cell? ⟨g, r, none⟩ = some (.slice Ar row.length cr) ∧ w'.cell? (ad1.add i) = some (.int .i64 n)) (ds := [15]) zB6_0 (by kernel_rfl) rfl rfl ⟨(blk_cell T7.out 1).trans rfl, hx1, hn1⟩ (fun hHeld => ?_)
        refine with_tabW insertedWith8.tab insertedWith8.bits (fun HT_ HW_ => ?_)
        generalize wz.drew = wd at T4 T5 T6 T7 SP B DP DZ RO HH hx1 hn1 hHeld ⊢
        refine pure_ (i := 0) (N := some 32) (v := ?_) (a' := ?_) zB6_1 rfl rfl (any_of HT_.out (by kernel_rfl)) (fun _ _ _ h => h) (Or.inl ⟨by rfl, ?_⟩) ?_ ?_
        rotate_left
        · intro w'
          go_simp
          with_reducible rfl
        rotate_left
        · simp only [Act.put, List.setIfInBounds_toArray, List.set_cons_zero, List.set_cons_succ, i64_w, i32_w]
          rfl
        refine pure_ (i := 2) (N := some 34) (v := ?_) (a' := ?_) zB6_2 rfl rfl (any_of HT_.out (by kernel_rfl)) (fun _ _ _ h => h) (Or.inl ⟨by rfl, ?_⟩) ?_ ?_
        rotate_left
        · intro w'
          go_simp
          with_reducible rfl
        rotate_left
        · simp only [Act.put, List.setIfInBounds_toArray, List.set_cons_zero, List.set_cons_succ, i64_w, i32_w]
          rfl
        refine pure_ (i := 3) (N := some 35) (v := ?_) (a' := ?_) zB6_3 rfl rfl (any_of HT_.out (by kernel_rfl)) (fun _ _ _ h => h) (Or.inl ⟨by rfl, ?_⟩) ?_ ?_
        rotate_left
        · intro w'
          go_simp
          with_reducible rfl
        rotate_left
        · simp only [Act.put, List.setIfInBounds_toArray, List.set_cons_zero, List.set_cons_succ, i64_w, i32_w]
          rfl
        refine pure_ (i := 5) (N := some 37) (v := ?_) (a' := ?_) zB6_4 rfl rfl (any_of HT_.out (by kernel_rfl)) (fun _ _ _ h => h) (Or.inl ⟨by rfl, ?_⟩) ?_ ?_
        rotate_left
        · intro w'
          go_simp
          with_reducible rfl
        rotate_left
        · simp only [Act.put, List.setIfInBounds_toArray, List.set_cons_zero, List.set_cons_succ, i64_w, i32_w]
          rfl
        refine pure_ (i := 8) (N := some 40) (v := ?_) (a' := ?_) zB6_5 rfl rfl (any_of HT_.out (by kernel_rfl)) (fun _ _ _ h => h) (Or.inl ⟨by rfl, ?_⟩) ?_ ?_
        rotate_left
        · intro w'
          go_simp
          with_reducible rfl
        rotate_left
        · simp only [Act.put, List.setIfInBounds_toArray, List.set_cons_zero, List.set_cons_succ, i64_w, i32_w]
          rfl
        refine pure_ (i := 9) (N := some 41) (v := ?_) (a' := ?_) zB6_6 rfl rfl (any_of HT_.out (by kernel_rfl)) (fun _ _ _ h => h) (Or.inl ⟨by rfl, ?_⟩) ?_ ?_
        rotate_left
        · intro w'
          go_simp
          with_reducible rfl
        rotate_left
        · simp only [Act.put, List.setIfInBounds_toArray, List.set_cons_zero, List.set_cons_succ, i64_w, i32_w]
          rfl
        refine pure_ (i := 10) (N := some 42) (v := ?_) (a' := ?_) zB6_7 rfl rfl (any_of HT_.out (by kernel_rfl)) (fun _ _ _ h => h) (Or.inl ⟨by rfl, ?_⟩) ?_ ?_
        rotate_left
        · intro w'
          go_simp
          with_reducible rfl
        rotate_left
        · simp only [Act.put, List.setIfInBounds_toArray, List.set_cons_zero, List.set_cons_succ, i64_w, i32_w]
          rfl
        refine take_ (i := 1) (N := some 33) (v := ?_) (a' := ?_) zB6_8 rfl rfl (take_ofW HT_.out HW_.out (by kernel_rfl)) (fun _ _ _ h => h) (Or.inl ⟨by rfl, ?_⟩) hHeld ?_ ?_
        rotate_left
        · rintro w' ⟨s0, s1, s2⟩
          go_simp
          with_reducible rfl
        rotate_left
        · simp only [Act.put, List.setIfInBounds_toArray, List.set_cons_zero, List.set_cons_succ, i64_w, i32_w]
          rfl
        refine take_ (i := 4) (N := some 36) (v := ?_) (a' := ?_) zB6_9 rfl rfl (take_ofW HT_.out HW_.out (by kernel_rfl)) (fun _ _ _ h => h) (Or.inl ⟨by rfl, ?_⟩) hHeld ?_ ?_
        rotate_left
        · rintro w' ⟨s0, s1, s2⟩
          go_simp
          with_reducible rfl
        rotate_left
        · simp only [Act.put, List.setIfInBounds_toArray, List.set_cons_zero, List.set_cons_succ, i64_w, i32_w]
          rfl
        refine pure_ (i := 6) (N := some 38) (v := ?_) (a' := ?_) zB6_10 rfl rfl (any_of HT_.out (by kernel_rfl)) (fun _ _ _ h => h) (Or.inl ⟨by rfl, ?_⟩) ?_ ?_
        rotate_left
        · intro w'
          go_simp
          with_reducible rfl
        rotate_left
        · simp only [Act.put, List.setIfInBounds_toArray, List.set_cons_zero, List.set_cons_succ, i64_w, i32_w]
          rfl
        refine take_ (i := 7) (N := some 39) (v := ?_) (a' := ?_) zB6_11 rfl rfl (take_ofW HT_.out HW_.out (by kernel_rfl)) (fun _ _ _ h => h) (Or.inl ⟨by rfl, ?_⟩) hHeld ?_ ?_
        rotate_left
        · rintro w' ⟨s0, s1, s2⟩
          go_simp
          with_reducible rfl
        rotate_left
        · simp only [Act.put, List.setIfInBounds_toArray, List.set_cons_zero, List.set_cons_succ, i64_w, i32_w]
          rfl
        refine take_ (i := 11) (N := some 43) (v := ?_) (a' := ?_) zB6_12 rfl rfl (take_ofW HT_.out HW_.out (by kernel_rfl)) (fun _ _ _ h => h) (Or.inl ⟨by rfl, ?_⟩) hHeld ?_ ?_
        rotate_left
        · rintro w' ⟨s0, s1, s2⟩
          go_simp
          with_reducible rfl
        rotate_left
        · simp only [Act.put, List.setIfInBounds_toArray, List.set_cons_zero, List.set_cons_succ, i64_w, i32_w]
          rfl
        refine one_ (i := 12) (N := some 44) zB6_13 rfl rfl (one_of HT_.out (by kernel_rfl)) (by decide) (fun K hK => ?_)
        refine value_ (w1 := ?_) (v := ?_) (by rfl) rfl ?_ ?_
        rotate_left 2
        · go_simp
          constructor
          · rfl
          · rfl
        refine hK.out _ _ ⟨(blk_cell (blk_alloc T7.out _) 1).trans rfl, (World.cell?_alloc_lt _ _ _ (World.block_lt_of_cell? _ _ (hHeld.2.1))).trans (hHeld.2.1), (World.cell?_alloc_lt _ _ _ (World.block_lt_of_cell? _ _ (hHeld.2.2))).trans (hHeld.2.2)⟩ (fun hHeld => ?_)
        clear hK K
        refine norm_ (a' := ?_) ?_ ?_
        rotate_left
        · show Act.put _ (some 44) _ = _
          simp only [Act.put, List.setIfInBounds_toArray, List.set_cons_zero, List.set_cons_succ, i64_w, i32_w]
          rfl
        refine one_ (i := 13) (N := some 45) zB6_14 rfl rfl (one_of HT_.out (by kernel_rfl)) (by decide) (fun K hK => ?_)
        refine Kd.R_append_step (Kd.int .i64) (w0 := w) w.heap.size (by rfl) (.tmp 39) (.tmp 44) 22 3 (.int .i64 0) 8 rfl Tryd.underlying22 info3 rfl (by decide) (by omega) (.slice Ar row.length cr) row n [.int .i64 n] (fun k => oki k ∨ (Q2 k ∨ wd.heap.size ≤ k) ∧ wd.heap.size ≤ k) (fun _ => False) rfl rfl ?aP (fun _ hk => hk.elim) ?aF ?aO ?aB ?aS ?aL ?_
        (case aP => exact rfl)
        (case aB => exact B.out)
        (case aF => exact fun k hk => .inr ⟨.inr hk, hk⟩)
        (case aO => exact Kd.R_mono RO.out (fun _ hk => .inl hk))
        (case aS => exact B.out.size)
        (case aL => omega)
        intro v9 w9 ho hb hg hat
        have K9 := Aside0.mk (Kept.of_grown hg (Kept.refl wd Q2) (fun k e => .inl (HO.out k (RO.out.1 k e)).1))
        have ZW := Aside0.mk K9.out.1
        have T4 := Aside0.mk ((K9.out.2 b4 (blk_lt T4.out) (fun h => by have o4 := L4.out; have o5 := L5.out; have o6 := L6.out; have o7 := L7.out; have := DQ.out _ h; omega)).trans T4.out)
        have T5 := Aside0.mk ((K9.out.2 b5 (blk_lt T5.out) (fun h => by have o4 := L4.out; have o5 := L5.out; have o6 := L6.out; have o7 := L7.out; have := DQ.out _ h; omega)).trans T5.out)
        have T6 := Aside0.mk ((K9.out.2 b6 (blk_lt T6.out) (fun h => by have o4 := L4.out; have o5 := L5.out; have o6 := L6.out; have o7 := L7.out; have := DQ.out _ h; omega)).trans T6.out)
        have T7 := Aside0.mk ((K9.out.2 b7 (blk_lt T7.out) (fun h => by have o4 := L4.out; have o5 := L5.out; have o6 := L6.out; have o7 := L7.out; have := DQ.out _ h; omega)).trans T7.out)
        have SP := Aside0.mk (S_carry SP.out K9.out (fun k hk h => (DP.out k hk).2.1 h))
        have H9 := Aside0.mk (Kd.H_grown (Kd.H_widen (Kd.H_mono HH.out (fun k hk => (.inl hk : Q2 k ∨ wd.heap.size ≤ k)))) hg (fun k e => .inl (RO.out.1 k e)))
        have B := Aside0.mk hb
        obtain ⟨Ao, co, eo⟩ := Kd.R_slice ho
        subst eo
        have R9 := Aside0.mk ho
        obtain ⟨hc9, hf9⟩ := Kd.H_at H9.out (show (0 : Int) ≤ (r : Int) by omega) (show (r : Int) < (q2.length : Int) by omega)
        have hx9 := hc9 0 _ rfl
        have hy9 := hf9 0
        rw [show (r : Int).toNat * (Kd.slice 3 (Kd.int .i64)).sz + 0 = r from by show (r : Int).toNat * 1 + 0 = r; omega] at hx9 hy9
        clear ho hb hg hat hc9 hf9
        obtain ⟨ad3, e3_, hn9⟩ := Kd.at_int (Kd.C_below HR1.out B.out) (i : Int) (by omega) hlz1
        cases e3_
        rw [Int.toNat_natCast, ← NN_.out] at hn9
        refine hK.out _ _ ⟨(blk_cell T7.out 1).trans rfl, hx9, hn9⟩ (fun hHeld => ?_)
        clear hK K
        refine norm_ (a' := ?_) ?_ ?_
        rotate_left
        · show Act.put _ (some 45) _ = _
          simp only [Act.put, List.setIfInBounds_toArray, List.set_cons_zero, List.set_cons_succ, i64_w, i32_w]
          rfl
        refine pure_ (i := 14) (N := some 46) (v := ?_) (a' := ?_) zB6_15 rfl rfl (any_of HT_.out (by kernel_rfl)) (fun _ _ _ h => h) (Or.inl ⟨by rfl, ?_⟩) ?_ ?_
        rotate_left
        · intro w'
          go_simp
          with_reducible rfl
        rotate_left
        · simp only [Act.put, List.setIfInBounds_toArray, List.set_cons_zero, List.set_cons_succ, i64_w, i32_w]
          rfl
        refine last_ (i := 15) (N := none) zB6_16 rfl rfl (one_of HT_.out (by kernel_rfl)) (by decide) (fun K hK => ?_)
        refine skip_ (w1 := ?_) (by rfl) rfl ?_ ?_
        rotate_left
        · go_simp
          rfl
        refine hK.out _ _ ?_
        clear hK K
        refine done_ (done_of HT_.out (by kernel_rfl)) ?_
        have SF := Aside0.mk (Kd.S_seg0 H9.out (show (0 : Int) ≤ (r : Int) by omega) (show (r : Int) < (q2.length : Int) by omega) (seg := [.slice Ao (row ++ [n]).length co]) (j := 0) (show 1 ≤ 1 from by decide) (x' := row ++ [n]) (Kd.M_row R9.out) (fun _ hk => hk)).1
        rw [show (r : Int).toNat * (Kd.slice 3 (Kd.int .i64)).sz + 0 = r from by show (r : Int).toNat * 1 + 0 = r; omega, Int.toNat_natCast, show (row ++ [n]).length = row.length + 1 by simp] at SF
        have T4 := Aside0.mk (blk_far (p := ⟨g, r, none⟩) T4.out (show b4 ≠ g by have o4 := L4.out; have o5 := L5.out; have o6 := L6.out; have o7 := L7.out; have := G7.out; omega) (.slice Ao (row.length + 1) co))
        have T5 := Aside0.mk (blk_far (p := ⟨g, r, none⟩) T5.out (show b5 ≠ g by have o4 := L4.out; have o5 := L5.out; have o6 := L6.out; have o7 := L7.out; have := G7.out; omega) (.slice Ao (row.length + 1) co))
        have T6 := Aside0.mk (blk_far (p := ⟨g, r, none⟩) T6.out (show b6 ≠ g by have o4 := L4.out; have o5 := L5.out; have o6 := L6.out; have o7 := L7.out; have := G7.out; omega) (.slice Ao (row.length + 1) co))
        have T7 := Aside0.mk (blk_far (p := ⟨g, r, none⟩) T7.out (show b7 ≠ g by have o4 := L4.out; have o5 := L5.out; have o6 := L6.out; have o7 := L7.out; have := G7.out; omega) (.slice Ao (row.length + 1) co))
        have SP := Aside0.mk (Kd.S_far (p := ⟨g, r, none⟩) SP.out (fun k hk e => (DP.out k hk).2.1 (by rw [e]; exact GQ.out)) (.slice Ao (row.length + 1) co))
        have B := Aside0.mk (below_set (j := r) (v := .slice Ao (row.length + 1) co) B.out GB.out)
        have E1 : (bothAt l0 (fun k => rd l1 (k : Int)) (i + 1)).1 = insRows p x := by show insRows _ _ = _; rw [← PP.out, ← XX.out]
        have E2 : (bothAt l0 (fun k => rd l1 (k : Int)) (i + 1)).2 = q2.set r (row ++ [n]) := by show recQ _ _ _ = _; rw [← PP.out, ← QQ.out, ← XX.out, ← RR.out, RC.out, ← ROW.out]; rw [NN_.out]
        rw [← E1] at SP
        rw [← E2] at SF
        have DF : Aside0 (∀ k, P2 k → b7 < k ∧ ¬ (Q2 k ∨ wd.heap.size ≤ k)) := ⟨fun k hk => ⟨(DP.out k hk).1, fun h => by rcases h with h | h; exact (DP.out k hk).2.1 h; have := (DP.out k hk).2.2; omega⟩⟩
        have DG : Aside0 (∀ k, (Q2 k ∨ wd.heap.size ≤ k) → b7 < k) := ⟨fun k hk => by rcases hk with h | h; exact DQ.out k h; have := DZ.out; omega⟩
        have HL2 := HL.out
        clear E1 E2
        go_wp2
        go_roundg (l0.length - (i + 1))
        all_goals first
          | omega
          | exact ⟨i + 1, pv', .slice (some ⟨g, 0, none⟩) q2.length c2, P2, (fun k => Q2 k ∨ wd.heap.size ≤ k), by omega, by omega, by go_num, T4, T5, T6, T7, SP, SF, DF, DG, B⟩
    · have hie : i = l0.length := by omega
      have hltz : ¬ (i : Int) < (l0.length : Int) := by omega
      have HE := Aside0.mk hie
      clear hie
      have o4 := L4.out; have o5 := L5.out; have o6 := L6.out; have o7 := L7.out
      obtain ⟨Ap, cp, ep_⟩ := Kd.R_slice (Kd.S_R SP.out)
      subst ep_
      obtain ⟨Aq, cq, eq_⟩ := Kd.R_slice (Kd.S_R SQ.out)
      subst eq_
      have T4d := blk_drew T4.out
      have T5d := blk_drew T5.out
      have T6d := blk_drew T6.out
      have T7d := blk_drew T7.out
      have hz4_0 : wr.cell? ⟨b4, 0, none⟩ = some (.slice none 0 0) := (blk_cell T4.out 0).trans rfl
      have hd4_0 : wr.drew.cell? ⟨b4, 0, none⟩ = some (.slice none 0 0) := (blk_cell T4d 0).trans rfl
      have hf4_0 := blk_frozen T4.out 0
      have hg4_0 := blk_frozen T4d 0
      have hz4_1 : wr.cell? ⟨b4, 1, none⟩ = some (.slice none 0 0) := (blk_cell T4.out 1).trans rfl
      have hd4_1 : wr.drew.cell? ⟨b4, 1, none⟩ = some (.slice none 0 0) := (blk_cell T4d 1).trans rfl
      have hf4_1 := blk_frozen T4.out 1
      have hg4_1 := blk_frozen T4d 1
      have hz5_0 : wr.cell? ⟨b5, 0, none⟩ = some (.slice none 0 0) := (blk_cell T5.out 0).trans rfl
      have hd5_0 : wr.drew.cell? ⟨b5, 0, none⟩ = some (.slice none 0 0) := (blk_cell T5d 0).trans rfl
      have hf5_0 := blk_frozen T5.out 0
      have hg5_0 := blk_frozen T5d 0
      have hz5_1 : wr.cell? ⟨b5, 1, none⟩ = some (.slice none 0 0) := (blk_cell T5.out 1).trans rfl
      have hd5_1 : wr.drew.cell? ⟨b5, 1, none⟩ = some (.slice none 0 0) := (blk_cell T5d 1).trans rfl
      have hf5_1 := blk_frozen T5.out 1
      have hg5_1 := blk_frozen T5d 1
      have hz6_0 : wr.cell? ⟨b6, 0, none⟩ = some (.slice none 0 0) := (blk_cell T6.out 0).trans rfl
      have hd6_0 : wr.drew.cell? ⟨b6, 0, none⟩ = some (.slice none 0 0) := (blk_cell T6d 0).trans rfl
      have hf6_0 := blk_frozen T6.out 0
      have hg6_0 := blk_frozen T6d 0
      have hz6_1 : wr.cell? ⟨b6, 1, none⟩ = some (.slice Ap (bothAt l0 (fun k => rd l1 (k : Int)) i).1.length cp) := (blk_cell T6.out 1).trans rfl
      have hd6_1 : wr.drew.cell? ⟨b6, 1, none⟩ = some (.slice Ap (bothAt l0 (fun k => rd l1 (k : Int)) i).1.length cp) := (blk_cell T6d 1).trans rfl
      have hf6_1 := blk_frozen T6.out 1
      have hg6_1 := blk_frozen T6d 1
      have hz7_0 : wr.cell? ⟨b7, 0, none⟩ = some (.slice none 0 0) := (blk_cell T7.out 0).trans rfl
      have hd7_0 : wr.drew.cell? ⟨b7, 0, none⟩ = some (.slice none 0 0) := (blk_cell T7d 0).trans rfl
      have hf7_0 := blk_frozen T7.out 0
      have hg7_0 := blk_frozen T7d 0
      have hz7_1 : wr.cell? ⟨b7, 1, none⟩ = some (.slice Aq (bothAt l0 (fun k => rd l1 (k : Int)) i).2.length cq) := (blk_cell T7.out 1).trans rfl
      have hd7_1 : wr.drew.cell? ⟨b7, 1, none⟩ = some (.slice Aq (bothAt l0 (fun k => rd l1 (k : Int)) i).2.length cq) := (blk_cell T7d 1).trans rfl
      have hf7_1 := blk_frozen T7.out 1
      have hg7_1 := blk_frozen T7d 1
      have ne4_5 : b4 ≠ b5 := by omega
      have ne4_6 : b4 ≠ b6 := by omega
      have ne4_7 : b4 ≠ b7 := by omega
      have ne5_4 : b5 ≠ b4 := by omega
      have ne5_6 : b5 ≠ b6 := by omega
      have ne5_7 : b5 ≠ b7 := by omega
      have ne6_4 : b6 ≠ b4 := by omega
      have ne6_5 : b6 ≠ b5 := by omega
      have ne6_7 : b6 ≠ b7 := by omega
      have ne7_4 : b7 ≠ b4 := by omega
      have ne7_5 : b7 ≠ b5 := by omega
      have ne7_6 : b7 ≠ b6 := by omega
      have OO := Aside0.mk (show w.heap.size ≤ b4 ∧ w.heap.size ≤ b5 from by constructor <;> omega)
      have hlw := blk_lt T4.out
      clear T4d T5d T6d T7d
      go_wp2
      go_region_with fail
      all_goals go_wp2
      all_goals have he_ := HE.out
      all_goals subst he_
      all_goals refine bodyPost_ret (results_cc rfl _ _ b4 b5 53 53 #[.slice none 0 0, .slice Ap (bothAt l0 (fun k => rd l1 (k : Int)) l0.length).1.length cp] #[.slice none 0 0, .slice Aq (bothAt l0 (fun k => rd l1 (k : Int)) l0.length).2.length cq] (0, 0) (0, 0) _ _ rfl (blk_drew (blk_far (blk_far (blk_put (cs' := #[.slice none 0 0, .slice Ap (bothAt l0 (fun k => rd l1 (k : Int)) l0.length).1.length cp]) (blk_put (cs' := #[.slice none 0 0, .slice none 0 0]) T4.out 0 _ rfl) 1 _ rfl) ne4_5 _) ne4_5 _)) Tryd.underlying53 rfl (by kernel_rfl) rfl (blk_drew (blk_put (cs' := #[.slice none 0 0, .slice Aq (bothAt l0 (fun k => rd l1 (k : Int)) l0.length).2.length cq]) (blk_put (cs' := #[.slice none 0 0, .slice none 0 0]) (blk_far (blk_far T5.out ne5_4 _) ne5_4 _) 0 _ rfl) 1 _ rfl)) Tryd.underlying53 rfl (by kernel_rfl)) rfl ?_
      all_goals refine ⟨_, _, P, Q, ?_, fun k hk => (HP.out k hk).2, Kd.S_drew (Kd.S_far (p := ⟨b5, 1, none⟩) (Kd.S_far (p := ⟨b5, 0, none⟩) (Kd.S_far (p := ⟨b4, 1, none⟩) (Kd.S_far (p := ⟨b4, 0, none⟩) SP.out (fun k hk e => by have e2_ : k = b4 := e; have := (HP.out k hk).1; omega) _) (fun k hk e => by have e2_ : k = b4 := e; have := (HP.out k hk).1; omega) _) (fun k hk e => by have e2_ : k = b5 := e; have := (HP.out k hk).1; omega) _) (fun k hk e => by have e2_ : k = b5 := e; have := (HP.out k hk).1; omega) _), Kd.S_drew (Kd.S_far (p := ⟨b5, 1, none⟩) (Kd.S_far (p := ⟨b5, 0, none⟩) (Kd.S_far (p := ⟨b4, 1, none⟩) (Kd.S_far (p := ⟨b4, 0, none⟩) SQ.out (fun k hk e => by have e2_ : k = b4 := e; have := HQ.out k hk; omega) _) (fun k hk e => by have e2_ : k = b4 := e; have := HQ.out k hk; omega) _) (fun k hk e => by have e2_ : k = b5 := e; have := HQ.out k hk; omega) _) (fun k hk e => by have e2_ : k = b5 := e; have := HQ.out k hk; omega) _), below_drew (below_set (below_set (below_set (below_set HB.out OO.out.1) OO.out.1) OO.out.2) OO.out.2)⟩
      all_goals first | rfl | simp

/-! ### impl_upTo: function 61 -/
def impl_upTo.l0 : Nat → List Int → Int → Int → Option (List Int)
 | 0, _, _, _ => none
 | k + 1, x3, x6, x7 => if x7 < x6 then (if x3.length < 17592186044416 then (impl_upTo.l0 k (x3 ++ [wrap64 (x7 + 1)]) x6 (wrap64 (x7 + 1))) else (none)) else (some x3)
def impl_upTo.f (k : Nat) (a0 : Int) : Option (List Int) := impl_upTo.l0 k (([] : List Int)) a0 0
theorem impl_upTo.mono_l : ∀ k, (∀ y0 y1 y2, LeO (impl_upTo.l0 k y0 y1 y2) (impl_upTo.l0 (k + 1) y0 y1 y2))
 | 0 => fun _ _ _ r h => by simp [impl_upTo.l0] at h
 | k + 1 => by
  have ih0 := impl_upTo.mono_l k
  ·intro y0 y1 y2
   unfold impl_upTo.l0
   repeat' first
   | (with_reducible exact ih0 _ _ _)
   | (with_reducible exact LeO.refl _)
   | (with_reducible exact LeO.none _)
   | (with_reducible refine LeO.ite ?_ ?_)
   | (with_reducible refine LeO.bind ?_ (fun _ => ?_))
   | exact ih0 _ _ _
   | exact LeO.none _
   | refine LeO.ite ?_ ?_
   | refine LeO.bind ?_ (fun _ => ?_)
theorem impl_upTo.mono : ∀ a0 k, LeO (impl_upTo.f k a0) (impl_upTo.f (k + 1) a0) := by
 intro a0 k
 have ih0 := impl_upTo.mono_l k
 unfold impl_upTo.f
 repeat' first
   | (with_reducible exact ih0 _ _ _)
   | (with_reducible exact LeO.refl _)
   | (with_reducible exact LeO.none _)
   | (with_reducible refine LeO.ite ?_ ?_)
   | (with_reducible refine LeO.bind ?_ (fun _ => ?_))
   | exact ih0 _ _ _
   | exact LeO.none _
   | refine LeO.ite ?_ ?_
   | refine LeO.bind ?_ (fun _ => ?_)
set_option maxHeartbeats 8000000 in
set_option maxRecDepth 100000 in
theorem impl_upTo.calls (k : Nat) (a0 : Int) (r : List Int) (w : World) (h : impl_upTo.f k a0 = some r) :
  Calls Tryd.prog 61 #[.int .i64 a0] w fun e w' => ∃ v0_ : Value, e = .returned (v0_) ∧ Kd.R (Kd.int .i64) 3 w' w.heap.size (fun _ => True) v0_ r ∧ Below w.heap.size w w' := by
 have HB := Aside0.mk (Below.refl w.heap.size w)
 have H : (impl_upTo.l0 k (([] : List Int)) a0 0) = some r := h
 clear h
 obtain ⟨y267, hy267⟩ : ∃ y_ : List Int, y_ = (([] : List Int)) := ⟨_, rfl⟩
 replace H : (impl_upTo.l0 k y267 a0 0) = some r := by first | (rw [hy267]; with_reducible exact H) | (have H2_ := (Option.bind_some _ _).symm.trans H; rw [hy267]; with_reducible exact H2_) | (have H2_ := (Option.bind_some _ _).symm.trans H; with_reducible exact H2_) | with_reducible exact H | (rw [hy267]; exact H) | exact H
 have Ny267 := Aside0.mk hy267
 clear hy267
 have H' := Aside0.mk H
 clear H
 go_enter Tryd.func61, Tryd.ntmps61
 go_wp2_with (first | ((with_reducible refine gate_dst (N := 5) rfl ?_); refine Kd.R_lit (Kd.int .i64) _ 3 ?hg (N := 5) ?hd (xs := ([] : List Int)) (inner := []) (ok := fun _ => True) (okp := fun _ => True) ?hr ?hp (fun _ hk => hk) trivial (Below.refl _ _) (Nat.le_refl _) (by simp) ?_; (case hd => rfl); (case hg => rfl); (case hr => first | (go_simp; done) | (go_simp; rfl)); (case hp => exact (Reps.none _ _)); intro v268 w2 ho3 hb hg_ hnew_; clear hg_ hnew_; (first | rw [← Ny267.out] at ho3 | (simp only [Int.reduceToNat] at ho3; rw [← Ny267.out] at ho3)); have n0_ := Aside0.mk (Kd.R_lower ho3 (below_size (by repeat (first | (with_reducible first | exact HB.out | apply below_alloc | apply pw_below_drewN | apply below_drew1) | exact HB.out)))); have n1_ := Aside0.mk (below_step (by repeat (first | (with_reducible first | exact HB.out | apply below_alloc | apply pw_below_drewN | apply below_drew1) | exact HB.out)) hb); clear HB; have HO269 := n0_; have HB := n1_; clear n0_ n1_; clear hb ho3))
 go_loopg [3, 7] k (fun kq v3 v7 w' => ∃ (x3_1 : List Int) (x7_1 : Int), v7 = .int .i64 x7_1 ∧ Aside0 (impl_upTo.l0 kq x3_1 a0 x7_1 = some r) ∧ Aside0 (kq ≤ k) ∧ Aside0 (Kd.R (Kd.int .i64) 3 w' w.heap.size (fun _ => True) v3 x3_1) ∧ Aside0 (Below w.heap.size w w'))
 case atStart => exact ⟨(y267), (0), (by first | rfl | (simp; done) | (simp [*]; done)), H', ⟨Nat.le_refl _⟩, ⟨by (with_reducible repeat (first | apply Kd.R_alloc | apply Kd.R_drewN | apply Kd.R_drew)); exact HO269.out⟩, ⟨by repeat (first | (with_reducible first | exact HB.out | apply below_alloc | apply pw_below_drewN | apply below_drew1) | exact HB.out)⟩⟩
 case round =>
  clear H'
  try clear p2
  obtain ⟨x3_1, x7_1, rfl, HA, HK1, HO_3, HB⟩ := hrel
  cases gk with
  | zero => exact absurd HA.out (by simp [impl_upTo.l0])
  | succ k1 =>
   have H := HA.out
   clear HA
   simp only [impl_upTo.l0] at H
   by_cases c4 : x7_1 < a0
   ·rw [if_pos c4] at H
    have c4b0 : decide (x7_1 < a0) = true := decide_eq_true c4
    clear c4
    by_cases c5 : x3_1.length < 17592186044416
    ·rw [if_pos c5] at H
     have LMc5 := Aside0.mk c5
     clear c5
     obtain ⟨y270, hy270⟩ : ∃ y_ : List Int, y_ = (x3_1 ++ [wrap64 (x7_1 + 1)]) := ⟨_, rfl⟩
     replace H : (impl_upTo.l0 k1 y270 a0 (wrap64 (x7_1 + 1))) = some r := by first | (rw [hy270]; with_reducible exact H) | (have H2_ := (Option.bind_some _ _).symm.trans H; rw [hy270]; with_reducible exact H2_) | (have H2_ := (Option.bind_some _ _).symm.trans H; with_reducible exact H2_) | with_reducible exact H | (rw [hy270]; exact H) | exact H
     have Ny270 := Aside0.mk hy270
     clear hy270
     have H' := Aside0.mk H
     clear H
     go_wp2_with (first | ((with_reducible refine gate_builtin (b := .append) (xs := #[.tmp 10, .tmp 13]) rfl ?_); at_builtin; refine Kd.R_append (Kd.int .i64) (w0 := w) w.heap.size rfl (.tmp 10) (.tmp 13) 22 3 (.int .i64 0) 8 rfl Tryd.underlying22 info3 rfl (by decide) (by omega) u3 x3_1 (wrap64 (x7_1 + 1)) [.int .i64 (wrap64 (x7_1 + 1))] (fun _ => True) (fun _ => False) rfl rfl ?aP (fun _ hk => hk.elim) ?aF ?aO ?aB ?aS ?aL ?_; (case aP => exact rfl); (case aB => exact (by repeat (first | (with_reducible first | exact HB.out | apply below_alloc | apply pw_below_drewN | apply below_drew1) | exact HB.out))); (case aF => exact (fun _ _ => trivial)); (case aO => exact (by (with_reducible repeat (first | apply Kd.R_alloc | apply Kd.R_drewN | apply Kd.R_drew)); exact HO_3.out)); (case aS => exact (below_size (by repeat (first | (with_reducible first | exact HB.out | apply below_alloc | apply pw_below_drewN | apply below_drew1) | exact HB.out)))); (case aL => have := LMc5.out; omega); intro v271 w6 ho hb hg hat; rw [← Ny270.out] at ho; have n0_ := Aside0.mk (hb); have n1_ := Aside0.mk (ho); clear HB; clear HO_3; have HB := n0_; have HO272 := n1_; clear n0_ n1_; clear ho hb hg hat))
     go_roundg k1
     case measure => have := HK1.out; omega
     case rel => exact ⟨(y270), (wrap64 (x7_1 + 1)), (by first | rfl | (simp; done) | (simp [*]; done)), H', ⟨by have := HK1.out; omega⟩, ⟨by (with_reducible repeat (first | apply Kd.R_alloc | apply Kd.R_drewN | apply Kd.R_drew)); exact HO272.out⟩, ⟨by repeat (first | (with_reducible first | exact HB.out | apply below_alloc | apply pw_below_drewN | apply below_drew1) | exact HB.out)⟩⟩
    ·rw [if_neg c5] at H
     exact absurd H (by simp)
   ·rw [if_neg c4] at H
    have c4b0 : decide (x7_1 < a0) = false := decide_eq_false c4
    clear c4
    obtain rfl := Option.some.inj H
    go_wp2
    go_ret
    exact ⟨_, by first | rfl | (simp [errW_none, errW_some] <;> rfl) | (simp [*, errW_none, errW_some] <;> rfl), by (with_reducible repeat (first | apply Kd.R_alloc | apply Kd.R_drewN | apply Kd.R_drew)); exact HO_3.out, by repeat (first | (with_reducible first | exact HB.out | apply below_alloc | apply pw_below_drewN | apply below_drew1) | exact HB.out)⟩

/-! ### impl_InsertWord: function 41 -/
def impl_InsertWord.f (k : Nat) (l0 : List Int) : Option (List Int × (List (List Int)) × Bool) := (impl_IsWord.f l0).bind fun b => if b = true then (impl_upTo.f k (l0.length : Int)).bind fun u => (if l0.length ≤ 900 ∧ l0.length ≤ u.length then some ([], (bothAt l0 (fun j => rd u (j : Int)) l0.length).1, true) else none) else some ([], [], false)
theorem impl_InsertWord.mono : ∀ a0 k, LeO (impl_InsertWord.f k a0) (impl_InsertWord.f (k + 1) a0) := by
 intro a0 k
 unfold impl_InsertWord.f
 repeat' first
  | (with_reducible exact impl_upTo.mono _ _)
  | (with_reducible exact LeO.refl _)
  | (with_reducible exact LeO.none _)
  | (with_reducible refine LeO.ite ?_ ?_)
  | (with_reducible refine LeO.bind ?_ (fun _ => ?_))
  | exact impl_upTo.mono _ _
  | exact LeO.refl _
set_option maxHeartbeats 8000000 in
set_option maxRecDepth 100000 in
theorem impl_InsertWord.calls (k : Nat) (A0 : Option Addr) (c0 : Nat) (l0 : List Int) (r1 : List Int) (r2 : List (List Int)) (r3 : Bool) (w : World) (hr0 : Kd.C (Kd.int .i64) w A0 l0.length l0) (hc0 : l0.length ≤ c0) (h : impl_InsertWord.f k l0 = some (r1, r2, r3)) :
  Calls Tryd.prog 41 #[.slice A0 l0.length c0] w fun e w' => ∃ v0_ v1_ : Value, e = .returned (.tuple #[.agg #[v0_, v1_], .bool r3]) ∧ Kd.R (Kd.int .i64) 3 w' w.heap.size (fun _ => True) v0_ r1 ∧ Kd.S (Kd.slice 3 (Kd.int .i64)) 22 w' w.heap.size (fun k_ => some k_ ≠ (v0_ : Value).ownBlock) v1_ r2 ∧ Below w.heap.size w w' := by
 have HR0 := Aside0.mk hr0
 have HC0 := Aside0.mk hc0
 obtain ⟨b, hb, h⟩ := Option.bind_eq_some_iff.1 h
 have WI := Aside0.mk hb
 clear hr0 hc0 hb
 cases b with
 | false =>
  obtain ⟨rfl, rfl, rfl⟩ : r1 = [] ∧ r2 = [] ∧ r3 = false := by simpa [eq_comm] using h
  clear h
  go_enter Tryd.func41, Tryd.ntmps41
  go_wp2_with (first | ((with_reducible refine gate_dst (N := 2) rfl ?_); refine zX (N := 2) (cs := #[.slice none 0 0, .slice none 0 0]) (t := 53) ?_; intro b2 hb2 w2_ hx2 hl2; have T2 := Aside0.mk hx2; have B := Aside0.mk hl2; have L2 := Aside0.mk (show w.heap.size ≤ b2 by omega); clear hx2 hl2 hb2) | (go_at_call 18; refine (impl_IsWord.calls A0 c0 l0 false w2_ (Kd.C_below HR0.out B.out) HC0.out WI.out).mono ?_; rintro e w6 ⟨rfl, hd⟩; have nT := Aside0.mk (blk_below T2.out hd.below); have nB := Aside0.mk (below_then B.out B.out.size hd.below); clear T2 B hd; have T2 := nT; have B := nB; clear nT nB; have hz2_0 : w6.cell? ⟨b2, 0, none⟩ = some (.slice none 0 0) := (blk_cell T2.out 0).trans rfl; have hz2_1 : w6.cell? ⟨b2, 1, none⟩ = some (.slice none 0 0) := (blk_cell T2.out 1).trans rfl; have hf2_0 := blk_frozen T2.out 0; have hf2_1 := blk_frozen T2.out 1))
  refine bodyPost_ret (results_ct rfl _ _ b2 53 #[.slice none 0 0, .slice none 0 0] (0, 0) _ rfl (blk_put (cs' := #[.slice none 0 0, .slice none 0 0]) (blk_put (cs' := #[.slice none 0 0, .slice none 0 0]) T2.out 0 _ rfl) 1 _ rfl) Tryd.underlying53 rfl (by kernel_rfl)) rfl ?_
  exact ⟨_, _, rfl, Kd.R_nil _ _ _ _ _, Kd.S_nil _ _ _ _ _, below_set (below_set B.out L2.out) L2.out⟩
 | true =>
  obtain ⟨u, hu, h⟩ := Option.bind_eq_some_iff.1 (show (impl_upTo.f k (l0.length : Int)).bind (fun u => (if l0.length ≤ 900 ∧ l0.length ≤ u.length then some ([], (bothAt l0 (fun j => rd u (j : Int)) l0.length).1, true) else none)) = some (r1, r2, r3) from h)
  by_cases hs : l0.length ≤ 900 ∧ l0.length ≤ u.length
  case neg => rw [if_neg hs] at h; exact absurd h (by simp)
  rw [if_pos hs] at h
  simp only [Option.some.injEq, Prod.mk.injEq] at h
  obtain ⟨rfl, rfl, rfl⟩ := h
  have HS := Aside0.mk hs
  clear hs
  have HU := Aside0.mk hu
  clear hu
  go_enter Tryd.func41, Tryd.ntmps41
  go_wp2_with (first | ((with_reducible refine gate_dst (N := 2) rfl ?_); refine zX (N := 2) (cs := #[.slice none 0 0, .slice none 0 0]) (t := 53) ?_; intro b2 hb2 w2_ hx2 hl2; have T2 := Aside0.mk hx2; have B := Aside0.mk hl2; have L2 := Aside0.mk (show w.heap.size ≤ b2 by omega); clear hx2 hl2 hb2) | (go_at_call 18; refine (impl_IsWord.calls A0 c0 l0 true w2_ (Kd.C_below HR0.out B.out) HC0.out WI.out).mono ?_; rintro e w6 ⟨rfl, hd⟩; have nT := Aside0.mk (blk_below T2.out hd.below); have nB := Aside0.mk (below_then B.out B.out.size hd.below); clear T2 B hd; have T2 := nT; have B := nB; clear nT nB) | (go_at_call 61; refine (impl_upTo.calls k (l0.length : Int) u w6 HU.out).mono ?_; rintro e w8 ⟨vu, rfl, hR, hB⟩; obtain ⟨Au, cu, eu⟩ := Kd.R_slice hR; subst eu; have nT := Aside0.mk (blk_below T2.out hB); have nB := Aside0.mk (below_then B.out B.out.size hB); clear T2 B; have T2 := nT; have B := nB; clear nT nB; have UR := Aside0.mk (Kd.R_reads' hR).2; clear hR hB) | (go_at_call 60; have z2 := blk_lt T2.out; refine (insertedWith_calls w8 A0 c0 l0 Au cu u (Kd.C_below HR0.out B.out) HC0.out UR.out.2 UR.out.1 HS.out.1 HS.out.2).mono ?_; rintro e w9 ⟨pv, qv, okp, okq, rfl, hd, hP, hQ, hB⟩; obtain ⟨Ap, cp, ep⟩ := Kd.R_slice (Kd.S_R hP); subst ep; obtain ⟨Aq, cq, eq⟩ := Kd.R_slice (Kd.S_R hQ); subst eq; have SV := Aside0.mk (Kd.S_mono (ok' := fun k_ => b2 < k_ ∧ k_ < w9.heap.size) (Kd.S_lower (Kd.S_bound hP) B.out.size) (fun k_ hk => ⟨Nat.lt_of_lt_of_le z2 hk.2.1, hk.2.2.1⟩)); have nT := Aside0.mk (blk_below T2.out hB); have nB := Aside0.mk (below_then B.out B.out.size hB); clear T2 B; have T2 := nT; have B := nB; clear nT nB; have Z2 := Aside0.mk (blk_lt T2.out); clear hP hQ hB hd z2) | ((with_reducible refine gate_dst (N := 4) rfl ?_); refine zX (N := 4) (cs := #[.slice none 0 0, .slice none 0 0]) (t := 53) ?_; intro b4 hb4 w4_ hx4 hl4; have hB := hl4; have nT := Aside0.mk (blk_below T2.out hB); have nB := Aside0.mk (below_then B.out B.out.size hB); clear T2 B; have T2 := nT; have B := nB; clear nT nB; have nS := Aside0.mk (Kd.S_below SV.out hl4); clear SV; have SV := nS; have L4 := Aside0.mk (show w9.heap.size ≤ b4 by omega); have T4 := Aside0.mk hx4; clear hx4 hl4 hb4 hB nS) | ((with_reducible refine gate_dst (N := 5) rfl ?_); refine zX (N := 5) (cs := #[.slice none 0 0, .slice none 0 0]) (t := 53) ?_; intro b5 hb5 w5_ hx5 hl5; have hB := hl5; have nT := Aside0.mk (blk_below T2.out hB); have nB := Aside0.mk (below_then B.out B.out.size hB); clear T2 B; have T2 := nT; have B := nB; clear nT nB; have nS := Aside0.mk (Kd.S_below SV.out hl5); have n4 := Aside0.mk (blk_below T4.out hl5); have L5 := Aside0.mk (show b4 < b5 by rw [hb5]; exact blk_lt T4.out); clear SV T4; have SV := nS; have T4 := n4; have T5 := Aside0.mk hx5; clear hx5 hl5 hb5 hB nS n4; have hz2_0 : w5_.cell? ⟨b2, 0, none⟩ = some (.slice none 0 0) := (blk_cell T2.out 0).trans rfl; have hz2_1 : w5_.cell? ⟨b2, 1, none⟩ = some (.slice none 0 0) := (blk_cell T2.out 1).trans rfl; have hf2_0 := blk_frozen T2.out 0; have hf2_1 := blk_frozen T2.out 1; have hz4_0 : w5_.cell? ⟨b4, 0, none⟩ = some (.slice none 0 0) := (blk_cell T4.out 0).trans rfl; have hz4_1 : w5_.cell? ⟨b4, 1, none⟩ = some (.slice none 0 0) := (blk_cell T4.out 1).trans rfl; have hf4_0 := blk_frozen T4.out 0; have hf4_1 := blk_frozen T4.out 1; have hz5_0 : w5_.cell? ⟨b5, 0, none⟩ = some (.slice none 0 0) := (blk_cell T5.out 0).trans rfl; have hz5_1 : w5_.cell? ⟨b5, 1, none⟩ = some (.slice none 0 0) := (blk_cell T5.out 1).trans rfl; have hf5_0 := blk_frozen T5.out 0; have hf5_1 := blk_frozen T5.out 1; have o2 := Z2.out; have o4 := L4.out; have o5 := L5.out; have ne2_4 : b2 ≠ b4 := (by omega); have ne2_5 : b2 ≠ b5 := (by omega); have ne4_2 : b4 ≠ b2 := (by omega); have ne4_5 : b4 ≠ b5 := (by omega); have ne5_2 : b5 ≠ b2 := (by omega); have ne5_4 : b5 ≠ b4 := (by omega)))
  refine bodyPost_ret (results_ct rfl _ _ b2 53 #[.slice none 0 0, .slice Ap (bothAt l0 (fun j => rd u (j : Int)) l0.length).1.length cp] (0, 0) _ rfl (blk_put (cs' := #[.slice none 0 0, .slice Ap (bothAt l0 (fun j => rd u (j : Int)) l0.length).1.length cp]) (blk_put (cs' := #[.slice none 0 0, .slice none 0 0]) (blk_far (blk_far (blk_far (blk_far T2.out ne2_4 _) ne2_4 _) ne2_5 _) ne2_5 _) 0 _ rfl) 1 _ rfl) Tryd.underlying53 rfl (by kernel_rfl)) rfl ?_
  exact ⟨_, _, rfl, Kd.R_nil _ _ _ _ _, Kd.S_mono (Kd.S_far (p := ⟨b2, 1, none⟩) (Kd.S_far (p := ⟨b2, 0, none⟩) (Kd.S_far (p := ⟨b5, 1, none⟩) (Kd.S_far (p := ⟨b5, 0, none⟩) (Kd.S_far (p := ⟨b4, 1, none⟩) (Kd.S_far (p := ⟨b4, 0, none⟩) SV.out (fun k_ hk e_ => by have e2_ : k_ = b4 := e_; have h1_ := (hk).1; have h2_ := (hk).2; omega) _) (fun k_ hk e_ => by have e2_ : k_ = b4 := e_; have h1_ := (hk).1; have h2_ := (hk).2; omega) _) (fun k_ hk e_ => by have e2_ : k_ = b5 := e_; have h1_ := (hk).1; have h2_ := (hk).2; omega) _) (fun k_ hk e_ => by have e2_ : k_ = b5 := e_; have h1_ := (hk).1; have h2_ := (hk).2; omega) _) (fun k_ hk e_ => by have e2_ : k_ = b2 := e_; have h1_ := (hk).1; have h2_ := (hk).2; omega) _) (fun k_ hk e_ => by have e2_ : k_ = b2 := e_; have h1_ := (hk).1; have h2_ := (hk).2; omega) _) (fun k_ hk => by simp [Value.ownBlock]), below_set (below_set (below_set (below_set (below_set (below_set B.out (show w.heap.size ≤ b4 by have := L2.out; omega)) (show w.heap.size ≤ b4 by have := L2.out; omega)) (show w.heap.size ≤ b5 by have := L2.out; omega)) (show w.heap.size ≤ b5 by have := L2.out; omega)) L2.out) L2.out⟩

end Go.Proofs.YthdoglkdcbghpaaDoor.F
