/- For each Go function named below: the plain Lean function that it computes, and that its call returns just that; conditions: those that each theorem names. -/
import Derived.Test.YtekjnjejgefbhaaF0
import Derived.Test.YtekjnjejgefbhaaF1
import Derived.Test.YtekjnjejgefbhaaF2
import Derived.Test.YtekjnjejgefbhaaF6
namespace Go.Proofs.Ytekjnjejgefbhaa.F
open Go.RowKit Go.Proofs.YtekjnjejgefbhaaW.PrintWords Go.Proofs.YtekjnjejgefbhaaW.PrintLast Go.Proofs.YtekjnjejgefbhaaW.PrintMore
attribute [local go_sem] max2_int min2_int max_two min_two max_three min_three max_four min_four   -- for this text's walks alone
set_option linter.unusedVariables false
set_option linter.unusedSimpArgs false
abbrev zB8_0 : Array Bool := #[false, false, false, false, false, false, false, false, false, false, false, false, false, false, false, false]
abbrev zB8_1 : Array Bool := #[true, false, false, false, false, false, false, false, false, false, false, false, false, false, false, false]
abbrev zB8_2 : Array Bool := #[true, false, true, false, false, false, false, false, false, false, false, false, false, false, false, false]
abbrev zB8_3 : Array Bool := #[true, false, true, true, false, false, false, false, false, false, false, false, false, false, false, false]
abbrev zB8_4 : Array Bool := #[true, false, true, true, false, true, false, false, false, false, false, false, false, false, false, false]
abbrev zB8_5 : Array Bool := #[true, false, true, true, false, true, false, false, true, false, false, false, false, false, false, false]
abbrev zB8_6 : Array Bool := #[true, false, true, true, false, true, false, false, true, true, false, false, false, false, false, false]
abbrev zB8_7 : Array Bool := #[true, false, true, true, false, true, false, false, true, true, true, false, false, false, false, false]
abbrev zB8_8 : Array Bool := #[true, true, true, true, false, true, false, false, true, true, true, false, false, false, false, false]
abbrev zB8_9 : Array Bool := #[true, true, true, true, true, true, false, false, true, true, true, false, false, false, false, false]
abbrev zB8_10 : Array Bool := #[true, true, true, true, true, true, true, false, true, true, true, false, false, false, false, false]
abbrev zB8_11 : Array Bool := #[true, true, true, true, true, true, true, true, true, true, true, false, false, false, false, false]
abbrev zB8_12 : Array Bool := #[true, true, true, true, true, true, true, true, true, true, true, true, false, false, false, false]
abbrev zB8_13 : Array Bool := #[true, true, true, true, true, true, true, true, true, true, true, true, true, false, false, false]
abbrev zB8_14 : Array Bool := #[true, true, true, true, true, true, true, true, true, true, true, true, true, true, false, false]
abbrev zB8_15 : Array Bool := #[true, true, true, true, true, true, true, true, true, true, true, true, true, true, true, false]
abbrev zB8_16 : Array Bool := #[true, true, true, true, true, true, true, true, true, true, true, true, true, true, true, true]

/-! ### impl_insertedWith: function 61 -/
def insertedWith8.T : Bool × List (List Nat × List Nat) := (true, [([], []), ([0], [0]), ([], []), ([], []), ([3], [3]), ([], []), ([4, 5], [4, 5]), ([6], [6]), ([], []), ([], []), ([8, 9], [8, 9]), ([10], [10]), ([11], [11]), ([7, 12], [7, 12]), ([1, 2, 0, 1, 2, 3, 4, 5, 6, 7, 8, 9, 10, 11, 12, 13], [1, 2]), ([14, 13, 13, 0, 1, 2, 3, 4, 5, 6, 7, 8, 9, 10, 11, 12, 13], [13, 14])])
def insertedWith8.B : List Nat := [0, 1, 0, 0, 8, 0, 56, 120, 0, 0, 768, 1792, 3840, 8184, 16383, 32767]
theorem insertedWith8.tab : rtab .any (opsOf Try.f61 8) = insertedWith8.T := by kernel_rfl
theorem insertedWith8.bits : waitsOk insertedWith8.T.2 insertedWith8.B = true := by kernel_rfl
set_option maxHeartbeats 8000000 in
set_option maxRecDepth 100000 in
theorem insertedWith_calls (w : World) (A0 : Option Addr) (c0 : Nat) (l0 : List Int) (A1 : Option Addr) (c1 : Nat) (l1 : List Int) (hr0 : Kd.C (Kd.int .i64) w A0 l0.length l0) (hc0 : l0.length ≤ c0) (hr1 : Kd.C (Kd.int .i64) w A1 l1.length l1) (hc1 : l1.length ≤ c1) (hl : l0.length ≤ 900) (hll : l0.length ≤ l1.length) :
    Calls Try.prog 61 #[.slice A0 l0.length c0, .slice A1 l1.length c1] w fun e w' => ∃ (pv qv : Value) (okp okq : Nat → Prop), e = .returned (.tuple #[.agg #[.slice none 0 0, pv], .agg #[.slice none 0 0, qv]]) ∧ (∀ k, okp k → ¬ okq k) ∧ Kd.S (Kd.slice 3 (Kd.int .i64)) 22 w' w.heap.size okp pv (bothAt l0 (fun k => rd l1 (k : Int)) l0.length).1 ∧ Kd.S (Kd.slice 3 (Kd.int .i64)) 22 w' w.heap.size okq qv (bothAt l0 (fun k => rd l1 (k : Int)) l0.length).2 ∧ Below w.heap.size w w' := by
  have HR0 := Aside0.mk hr0
  have HR1 := Aside0.mk hr1
  have HL := Aside0.mk hl
  have HLL := Aside0.mk hll
  clear hr0 hc0 hr1 hc1 hl hll
  go_enter Try.func61, Try.ntmps61
  go_wp2_with (first | ((with_reducible refine gate_dst (N := 4) rfl ?_); refine zX (N := 4) (cs := #[.slice none 0 0, .slice none 0 0]) (t := 40) ?_; intro b4 hb4 w4 hx4 hl4; have nb_ := Aside0.mk (hl4); have L4 := Aside0.mk (show w.heap.size ≤ b4 from by omega); have B := nb_; have T4 := Aside0.mk hx4; clear hx4 hl4 hb4 nb_) | ((with_reducible refine gate_dst (N := 5) rfl ?_); refine zX (N := 5) (cs := #[.slice none 0 0, .slice none 0 0]) (t := 40) ?_; intro b5 hb5 w5 hx5 hl5; have n4_ := Aside0.mk (blk_below T4.out hl5); have nb_ := Aside0.mk (below_then B.out B.out.size hl5); have L5 := Aside0.mk (show b4 < b5 from by rw [hb5]; exact blk_lt T4.out); clear T4; clear B; have T4 := n4_; have B := nb_; have T5 := Aside0.mk hx5; clear hx5 hl5 hb5 nb_ n4_) | ((with_reducible refine gate_dst (N := 6) rfl ?_); refine zX (N := 6) (cs := #[.slice none 0 0, .slice none 0 0]) (t := 40) ?_; intro b6 hb6 w6 hx6 hl6; have n4_ := Aside0.mk (blk_below T4.out hl6); have n5_ := Aside0.mk (blk_below T5.out hl6); have nb_ := Aside0.mk (below_then B.out B.out.size hl6); have L6 := Aside0.mk (show b5 < b6 from by rw [hb6]; exact blk_lt T5.out); clear T4; clear T5; clear B; have T4 := n4_; have T5 := n5_; have B := nb_; have T6 := Aside0.mk hx6; clear hx6 hl6 hb6 nb_ n4_ n5_) | ((with_reducible refine gate_dst (N := 7) rfl ?_); refine zX (N := 7) (cs := #[.slice none 0 0, .slice none 0 0]) (t := 40) ?_; intro b7 hb7 w7 hx7 hl7; have n4_ := Aside0.mk (blk_below T4.out hl7); have n5_ := Aside0.mk (blk_below T5.out hl7); have n6_ := Aside0.mk (blk_below T6.out hl7); have nb_ := Aside0.mk (below_then B.out B.out.size hl7); have L7 := Aside0.mk (show b6 < b7 from by rw [hb7]; exact blk_lt T6.out); clear T4; clear T5; clear T6; clear B; have T4 := n4_; have T5 := n5_; have T6 := n6_; have B := nb_; have T7 := Aside0.mk hx7; clear hx7 hl7 hb7 nb_ n4_ n5_ n6_; have hne := Ne.symm (Nat.ne_of_lt L7.out); have hne' := Nat.ne_of_lt L7.out; have hz6_0 : w7.cell? ⟨b6, 0, none⟩ = some (.slice none 0 0) := (blk_cell T6.out 0).trans rfl; have hz6_1 : w7.cell? ⟨b6, 1, none⟩ = some (.slice none 0 0) := (blk_cell T6.out 1).trans rfl; have hf6_0 := blk_frozen T6.out 0; have hf6_1 := blk_frozen T6.out 1; have hz7_0 : w7.cell? ⟨b7, 0, none⟩ = some (.slice none 0 0) := (blk_cell T7.out 0).trans rfl; have hz7_1 : w7.cell? ⟨b7, 1, none⟩ = some (.slice none 0 0) := (blk_cell T7.out 1).trans rfl; have hf7_0 := blk_frozen T7.out 0; have hf7_1 := blk_frozen T7.out 1))
  go_loopg [15] l0.length (fun kq v15 wr => ∃ (i : Nat) (pv qv : Value) (P Q : Nat → Prop), i ≤ l0.length ∧ l0.length - i ≤ kq ∧ v15 = .int .i64 i ∧ Aside0 (wr.heap[b4]? = some (.cells #[.slice none 0 0, .slice none 0 0] 40 (0, 0))) ∧ Aside0 (wr.heap[b5]? = some (.cells #[.slice none 0 0, .slice none 0 0] 40 (0, 0))) ∧ Aside0 (wr.heap[b6]? = some (.cells #[.slice none 0 0, pv] 40 (0, 0))) ∧ Aside0 (wr.heap[b7]? = some (.cells #[.slice none 0 0, qv] 40 (0, 0))) ∧ Aside0 (Kd.S (Kd.slice 3 (Kd.int .i64)) 22 wr w.heap.size P pv (bothAt l0 (fun k => rd l1 (k : Int)) i).1) ∧ Aside0 (Kd.S (Kd.slice 3 (Kd.int .i64)) 22 wr w.heap.size Q qv (bothAt l0 (fun k => rd l1 (k : Int)) i).2) ∧ Aside0 (∀ k, P k → b7 < k ∧ ¬ Q k) ∧ Aside0 (∀ k, Q k → b7 < k) ∧ Aside0 (Below w.heap.size w wr))
  case atStart =>
    have o4 := L4.out; have o5 := L5.out; have o6 := L6.out; have o7 := L7.out
    refine ⟨0, .slice none 0 0, .slice none 0 0, fun _ => False, fun _ => False, Nat.zero_le _, by omega, rfl, ?_, ?_, ?_, ?_, ⟨Kd.S_nil _ _ _ _ _⟩, ⟨Kd.S_nil _ _ _ _ _⟩, ⟨fun _ h => h.elim⟩, ⟨fun _ h => h.elim⟩, ?_⟩
    · exact ⟨blk_far (blk_far (blk_far (blk_far T4.out (show b4 ≠ b6 by omega) _) (show b4 ≠ b6 by omega) _) (show b4 ≠ b7 by omega) _) (show b4 ≠ b7 by omega) _⟩
    · exact ⟨blk_far (blk_far (blk_far (blk_far T5.out (show b5 ≠ b6 by omega) _) (show b5 ≠ b6 by omega) _) (show b5 ≠ b7 by omega) _) (show b5 ≠ b7 by omega) _⟩
    · exact ⟨blk_far (blk_far (blk_put (cs' := #[.slice none 0 0, .slice none 0 0]) (blk_put (cs' := #[.slice none 0 0, .slice none 0 0]) T6.out 0 _ rfl) 1 _ rfl) (show b6 ≠ b7 by omega) _) (show b6 ≠ b7 by omega) _⟩
    · exact ⟨blk_put (cs' := #[.slice none 0 0, .slice none 0 0]) (blk_put (cs' := #[.slice none 0 0, .slice none 0 0]) (blk_far (blk_far T7.out (show b7 ≠ b6 by omega) _) (show b7 ≠ b6 by omega) _) 0 _ rfl) 1 _ rfl⟩
    · exact ⟨below_set (below_set (below_set (below_set B.out (show w.heap.size ≤ b6 by omega)) (show w.heap.size ≤ b6 by omega)) (show w.heap.size ≤ b7 by omega)) (show w.heap.size ≤ b7 by omega)⟩
  case round =>
    clear hz6_0 hz6_1 hz7_0 hz7_1 hf6_0 hf6_1 hf7_0 hf7_1 T4 T5 T6 T7 B
    obtain ⟨i, pv, qv, P, Q, hi, hg, rfl, T4, T5, T6, T7, SP, SQ, HP, HQ, HB⟩ := hrel
    by_cases hlt : i < l0.length
    · have hltz : (i : Int) < (l0.length : Int) := by omega
      obtain ⟨ad0, rfl, hx0⟩ := Kd.at_int (Kd.C_below HR0.out HB.out) (i : Int) (by omega) hltz
      rw [Int.toNat_natCast] at hx0
      obtain ⟨x, hxx⟩ : ∃ x, x = rd l0 (i : Int) := ⟨_, rfl⟩
      rw [← hxx] at hx0
      have XX := Aside0.mk hxx
      have IV := Aside0.mk (both_inv l0 (fun k => rd l1 (k : Int)) i)
      obtain ⟨p, hp⟩ : ∃ p, p = (bothAt l0 (fun k => rd l1 (k : Int)) i).1 := ⟨_, rfl⟩
      obtain ⟨q, hq⟩ : ∃ q, q = (bothAt l0 (fun k => rd l1 (k : Int)) i).2 := ⟨_, rfl⟩
      rw [← hp, ← hq] at IV
      rw [← hp] at SP
      rw [← hq] at SQ
      have PP := Aside0.mk hp
      have QQ := Aside0.mk hq
      clear hp hq hxx
      obtain ⟨ad1, rfl, _⟩ := Kd.at_int HR1.out (i : Int) (by omega) (by have := HLL.out; omega)
      have IC := Aside0.mk (insert_calls w wr b6 (.slice none 0 0) pv p x P HB.out T6.out (by have o4 := L4.out; have o5 := L5.out; have o6 := L6.out; have o7 := L7.out; omega) SP.out (by have := IV.out.2.1; have := HL.out; omega) (fun r hr => by have := IV.out.2.2.1 r hr; have := HL.out; omega))
      have SQ0 := Aside0.mk (Kd.S_mono (ok' := fun k => Q k ∧ k < wr.heap.size) (Kd.S_bound SQ.out) (fun k hk => ⟨hk.1, hk.2.2.1⟩))
      obtain ⟨Aq, cq, eq_⟩ := Kd.R_slice (Kd.S_R SQ.out)
      subst eq_
      have RL := Aside0.mk (insAt_le p x)
      obtain ⟨r, hr_⟩ : ∃ r, r = insAt p x := ⟨_, rfl⟩
      rw [← hr_] at IC RL
      have RR := Aside0.mk hr_
      clear hr_ SQ
      have ZB := Aside0.mk (blk_lt T7.out)
      have hlz1 : (i : Int) < (l1.length : Int) := by have := HLL.out; omega
      by_cases hrq : r = q.length
      · have hrb : ((r : Int) == (q.length : Int)) = true := beq_iff_eq.mpr (by omega)
        have RQ := Aside0.mk hrq
        clear hrq
        go_wp2_with (first | (go_at_call 70; refine IC.out.mono ?_; rintro e w6 ⟨rfl, ⟨pv', hT6, hS6⟩, hB6, hK6⟩; have K6 := Aside0.mk hK6; clear hK6; have m4 := Aside0.mk ((K6.out.2 b4 (blk_lt T4.out) (fun h => by have o4 := L4.out; have o5 := L5.out; have o6 := L6.out; have o7 := L7.out; rcases h with h | h; have := (HP.out _ h).1; omega; omega)).trans T4.out); have m5 := Aside0.mk ((K6.out.2 b5 (blk_lt T5.out) (fun h => by have o4 := L4.out; have o5 := L5.out; have o6 := L6.out; have o7 := L7.out; rcases h with h | h; have := (HP.out _ h).1; omega; omega)).trans T5.out); have m7 := Aside0.mk ((K6.out.2 b7 (blk_lt T7.out) (fun h => by have o4 := L4.out; have o5 := L5.out; have o6 := L6.out; have o7 := L7.out; rcases h with h | h; have := (HP.out _ h).1; omega; omega)).trans T7.out); have m6 := Aside0.mk hT6; have mP := Aside0.mk (Kd.S_mono (ok' := fun k => (P k ∨ wr.heap.size ≤ k) ∧ k < w6.heap.size) (Kd.S_bound hS6) (fun k hk => ⟨hk.1, hk.2.2.1⟩)); have mQ := Aside0.mk (S_carry SQ0.out K6.out (fun k hk h => by have o4 := L4.out; have o5 := L5.out; have o6 := L6.out; have o7 := L7.out; rcases h with h | h; exact (HP.out _ h).2 hk.1; have := HQ.out _ hk.1; omega)); have mB := Aside0.mk hB6; have zw := Aside0.mk K6.out.1; clear hT6 hS6 hB6 T4 T5 T6 T7 SP SQ0; have hz7_1 : w6.cell? ⟨b7, 1, none⟩ = some (.slice Aq q.length cq) := (blk_cell m7.out 1).trans rfl; have hf7_1 := blk_frozen m7.out 1) | ((with_reducible refine gate_builtin (b := .append) (xs := #[.tmp 28, .tmp 29]) rfl ?_); at_builtin; refine Kd.S_append (Kd.slice 3 (Kd.int .i64)) (w0 := w) w.heap.size rfl (.tmp 28) (.tmp 29) 27 22 (.slice none 0 0) 24 rfl Try.underlying27 info22 rfl (by decide) (by omega) (.slice Aq q.length cq) q [] [.slice none 0 0] (fun k => (Q k ∧ k < wr.heap.size) ∨ w6.heap.size ≤ k) (fun _ => False) rfl rfl ?aM (fun _ h => h.elim) ?aF ?aO ?aB ?aS ?aL ?_; (case aM => exact ⟨_, rfl, Kd.R_nil _ _ _ _ _⟩); (case aF => exact fun k hk => .inr hk); (case aO => exact Kd.S_mono mQ.out (fun k hk => ⟨.inl hk, fun h => h⟩)); (case aB => exact mB.out); (case aS => exact mB.out.size); (case aL => have := IV.out; have := HL.out; omega); intro qv7 w8 ho hb hg hat; obtain ⟨Aq2, cq2, eq_⟩ := Kd.R_slice (Kd.S_R ho); subst eq_; have K8 := Aside0.mk (Kept.of_grown hg (Kept.refl w6 (fun k => Q k ∧ k < wr.heap.size)) (fun k e => .inl ((Kd.S_R mQ.out).1 k e))); have n4 := Aside0.mk ((K8.out.2 b4 (blk_lt m4.out) (fun h => by have o4 := L4.out; have o5 := L5.out; have o6 := L6.out; have o7 := L7.out; have := HQ.out _ h.1; omega)).trans m4.out); have n5 := Aside0.mk ((K8.out.2 b5 (blk_lt m5.out) (fun h => by have o4 := L4.out; have o5 := L5.out; have o6 := L6.out; have o7 := L7.out; have := HQ.out _ h.1; omega)).trans m5.out); have n6 := Aside0.mk ((K8.out.2 b6 (blk_lt m6.out) (fun h => by have o4 := L4.out; have o5 := L5.out; have o6 := L6.out; have o7 := L7.out; have := HQ.out _ h.1; omega)).trans m6.out); have n7 := Aside0.mk ((K8.out.2 b7 (blk_lt m7.out) (fun h => by have o4 := L4.out; have o5 := L5.out; have o6 := L6.out; have o7 := L7.out; have := HQ.out _ h.1; omega)).trans m7.out); have nP := Aside0.mk (S_carry mP.out K8.out (fun k hk h => by rcases hk.1 with h2 | h2; exact (HP.out _ h2).2 h.1; have := h.2; omega)); have nQ := Aside0.mk ho; have nB := Aside0.mk hb; clear ho hb hg hat; have hy7_1 : w8.cell? ⟨b7, 1, none⟩ = some (.slice Aq q.length cq) := (blk_cell n7.out 1).trans rfl; have hg7_1 := blk_frozen n7.out 1))
        have o4 := L4.out; have o5 := L5.out; have o6 := L6.out; have o7 := L7.out
        have T4 := Aside0.mk (blk_far (p := ⟨b7, 1, none⟩) n4.out (show b4 ≠ b7 by omega) (.slice Aq2 (q.length + 1) cq2))
        have T5 := Aside0.mk (blk_far (p := ⟨b7, 1, none⟩) n5.out (show b5 ≠ b7 by omega) (.slice Aq2 (q.length + 1) cq2))
        have T6 := Aside0.mk (blk_far (p := ⟨b7, 1, none⟩) n6.out (show b6 ≠ b7 by omega) (.slice Aq2 (q.length + 1) cq2))
        have T7_ := Aside0.mk (blk_put (cs' := #[.slice none 0 0, .slice Aq2 (q.length + 1) cq2]) n7.out 1 (.slice Aq2 (q.length + 1) cq2) rfl)
        have SP_ := Aside0.mk (Kd.S_far (p := ⟨b7, 1, none⟩) nP.out (fun k hk e => by have e2_ : k = b7 := e; rcases hk.1 with h | h; have := (HP.out k h).1; omega; have := hk.2; have := blk_lt m7.out; have := zw.out; have := blk_lt (m7.out); have hz : b7 < wr.heap.size := ZB.out; omega) (.slice Aq2 (q.length + 1) cq2))
        have SQ_ := Aside0.mk (Kd.S_far (p := ⟨b7, 1, none⟩) nQ.out (fun k hk e => by have e2_ : k = b7 := e; rcases hk with h | h; have := HQ.out k h.1; omega; have := blk_lt m7.out; omega) (.slice Aq2 (q.length + 1) cq2))
        have B := Aside0.mk (below_set (j := 1) (v := .slice Aq2 (q.length + 1) cq2) nB.out (show w.heap.size ≤ b7 by omega))
        have zz := Aside0.mk (show w6.heap.size ≤ (w8.setCell ⟨b7, 1, none⟩ (.slice Aq2 (q.length + 1) cq2)).heap.size from Nat.le_trans K8.out.1 (Kept.setCell (Kept.refl w8 (fun _ => True)) (p := ⟨b7, 1, none⟩) (.inl trivial) _).1)
        have m7z := Aside0.mk (blk_lt m7.out)
        clear hz7_1 hf7_1 hy7_1 hg7_1
        generalize w8.setCell ⟨b7, 1, none⟩ (.slice Aq2 (q.length + 1) cq2) = wz at T4 T5 T6 T7_ SP_ SQ_ B zz ⊢
        have T7q : Aside0 (wz.heap[b7]? = some (.cells #[.slice none 0 0, .slice Aq2 (q ++ [[]]).length cq2] 40 (0, 0))) := ⟨by rw [show (q ++ [([] : List Int)]).length = q.length + 1 by simp]; exact T7_.out⟩
        have ST : ∃ (P2 Q2 : Nat → Prop) (q2 : List (List Int)) (A2 : Option Addr) (c2 : Nat), Aside0 (wz.heap[b7]? = some (.cells #[.slice none 0 0, .slice A2 q2.length c2] 40 (0, 0))) ∧ Aside0 (Kd.S (Kd.slice 3 (Kd.int .i64)) 22 wz w.heap.size P2 pv' (insRows p x)) ∧ Aside0 (Kd.S (Kd.slice 3 (Kd.int .i64)) 22 wz w.heap.size Q2 (.slice A2 q2.length c2) q2) ∧ Aside0 (∀ k, P2 k → b7 < k ∧ ¬ Q2 k ∧ k < wz.heap.size) ∧ Aside0 (∀ k, Q2 k → b7 < k) ∧ Aside0 (r < q2.length) ∧ Aside0 (q2.length ≤ i + 1) ∧ Aside0 (∀ s ∈ q2, s.length ≤ i) ∧ Aside0 (∀ n, recQ q r n = q2.set r (q2.getD r [] ++ [n])) := by
          refine ⟨_, _, q ++ [[]], _, _, T7q, SP_, SQ_, ⟨?_⟩, ⟨?_⟩, ⟨?_⟩, ⟨?_⟩, ⟨?_⟩, ⟨?_⟩⟩
          · rintro k ⟨hk1, hk2⟩; have z1 := zz.out; have z2 := ZB.out; refine ⟨?_, fun h => ?_, by omega⟩; (rcases hk1 with h | h; exact (HP.out k h).1; omega); (rcases h with h | h; (rcases hk1 with h2 | h2; exact (HP.out k h2).2 h.1; have := h.2; omega); omega)
          · rintro k (h | h); exact HQ.out k h.1; have := m7z.out; omega
          · simp only [List.length_append, List.length_cons, List.length_nil]; have := RQ.out; omega
          · simp only [List.length_append, List.length_cons, List.length_nil]; have := IV.out.1; have := IV.out.2.1; omega
          · intro s hs; rcases List.mem_append.1 hs with h | h; exact IV.out.2.2.2 s h; (obtain rfl : s = [] := by simpa using h); simp
          · intro n; unfold recQ; rw [if_pos RQ.out]
        obtain ⟨P2, Q2, q2, A2, c2, T7, SP, SQ, DP, DQ, RQ2, QL, QB, RC⟩ := ST
        have HRQ := RQ2.out
        obtain ⟨g, cc, e0⟩ : ∃ g cc, (Value.slice A2 q2.length c2) = .slice (some ⟨g, 0, none⟩) q2.length cc := by
          obtain ⟨g, cc, e0, _⟩ := Kd.R_form (Kd.S_R SQ.out) (by omega)
          injection e0 with ea el ec
          exact ⟨g, c2, by rw [ea]⟩
        injection e0 with ea _ ec
        subst ea ec
        have GB := Aside0.mk (Kd.R_base (Kd.S_R SQ.out) g (by simp [Value.ownBlock]))
        have GQ := Aside0.mk ((Kd.S_R SQ.out).1 g (by simp [Value.ownBlock]))
        have G7 := Aside0.mk (DQ.out g GQ.out)
        have T4 := Aside0.mk (blk_drew T4.out)
        have T5 := Aside0.mk (blk_drew T5.out)
        have T6 := Aside0.mk (blk_drew T6.out)
        have T7 := Aside0.mk (blk_drew T7.out)
        have SP := Aside0.mk (Kd.S_drew SP.out)
        have B := Aside0.mk (below_drew B.out)
        have DP : Aside0 (∀ k, P2 k → b7 < k ∧ ¬ Q2 k ∧ k < wz.drew.heap.size) := ⟨DP.out⟩
        have DZ : Aside0 (b7 < wz.drew.heap.size) := ⟨blk_lt T7.out⟩
        obtain ⟨oki, cs, hcl, hM, hcc, hfr, hoki, hH⟩ := Kd.S_elem (Kd.S_drew SQ.out) [] (r : Int) (by omega) (by omega)
        rw [Int.toNat_natCast] at hM
        obtain ⟨v, rfl, hR⟩ := hM
        obtain ⟨Ar, cr, e1⟩ := Kd.R_slice hR
        subst e1
        have hx1 := hcc 0 _ rfl
        rw [show (r : Int).toNat * (Kd.slice 3 (Kd.int .i64)).sz + 0 = r from by show (r : Int).toNat * 1 + 0 = r; omega] at hx1
        obtain ⟨row, hrow⟩ : ∃ row, row = q2.getD r [] := ⟨_, rfl⟩
        rw [← hrow] at hx1 hR hH
        have hrl : row.length ≤ 900 := by
          have := HL.out
          rw [hrow, List.getD_eq_getElem?_getD, List.getElem?_eq_getElem HRQ]
          have := QB.out _ (List.getElem_mem HRQ)
          simp only [Option.getD_some]; omega
        have ROW := Aside0.mk hrow
        have RO := Aside0.mk hR
        have HO := Aside0.mk hoki
        have HH := Aside0.mk hH
        clear hrow hR hoki hH hcc hfr hcl SQ
        obtain ⟨ad2, e2_, hn1⟩ := Kd.at_int (Kd.C_below HR1.out B.out) (i : Int) (by omega) hlz1
        cases e2_
        rw [Int.toNat_natCast] at hn1
        obtain ⟨n, hn_⟩ : ∃ n, n = rd l1 (i : Int) := ⟨_, rfl⟩
        rw [← hn_] at hn1
        have NN_ := Aside0.mk hn_
        clear hn_
        have hrz : (r : Int) < (q2.length : Int) := by omega
        refine start_ (n := 16) (S := fun w' => w'.cell? ⟨b7, 1, none⟩ = some (.slice (some ⟨g, 0, none⟩) q2.length c2) ∧ w'.cell? ⟨g, r, none⟩ = some (.slice Ar row.length cr) ∧ w'.cell? (ad1.add i) = some (.int .i64 n)) (ds := [15]) zB8_0 (by kernel_rfl) rfl rfl ⟨(blk_cell T7.out 1).trans rfl, hx1, hn1⟩ (fun hHeld => ?_)
        refine with_tabW insertedWith8.tab insertedWith8.bits (fun HT_ HW_ => ?_)
        generalize wz.drew = wd at T4 T5 T6 T7 SP B DP DZ RO HH hx1 hn1 hHeld ⊢
        refine pure_ (i := 0) (N := some 32) (v := ?_) (a' := ?_) zB8_1 rfl rfl (any_of HT_.out (by kernel_rfl)) (fun _ _ _ h => h) (Or.inl ⟨by rfl, ?_⟩) ?_ ?_
        rotate_left
        · intro w'
          go_simp
          with_reducible rfl
        rotate_left
        · simp only [Act.put, List.setIfInBounds_toArray, List.set_cons_zero, List.set_cons_succ, i64_w, i32_w]
          rfl
        refine pure_ (i := 2) (N := some 34) (v := ?_) (a' := ?_) zB8_2 rfl rfl (any_of HT_.out (by kernel_rfl)) (fun _ _ _ h => h) (Or.inl ⟨by rfl, ?_⟩) ?_ ?_
        rotate_left
        · intro w'
          go_simp
          with_reducible rfl
        rotate_left
        · simp only [Act.put, List.setIfInBounds_toArray, List.set_cons_zero, List.set_cons_succ, i64_w, i32_w]
          rfl
        refine pure_ (i := 3) (N := some 35) (v := ?_) (a' := ?_) zB8_3 rfl rfl (any_of HT_.out (by kernel_rfl)) (fun _ _ _ h => h) (Or.inl ⟨by rfl, ?_⟩) ?_ ?_
        rotate_left
        · intro w'
          go_simp
          with_reducible rfl
        rotate_left
        · simp only [Act.put, List.setIfInBounds_toArray, List.set_cons_zero, List.set_cons_succ, i64_w, i32_w]
          rfl
        refine pure_ (i := 5) (N := some 37) (v := ?_) (a' := ?_) zB8_4 rfl rfl (any_of HT_.out (by kernel_rfl)) (fun _ _ _ h => h) (Or.inl ⟨by rfl, ?_⟩) ?_ ?_
        rotate_left
        · intro w'
          go_simp
          with_reducible rfl
        rotate_left
        · simp only [Act.put, List.setIfInBounds_toArray, List.set_cons_zero, List.set_cons_succ, i64_w, i32_w]
          rfl
        refine pure_ (i := 8) (N := some 40) (v := ?_) (a' := ?_) zB8_5 rfl rfl (any_of HT_.out (by kernel_rfl)) (fun _ _ _ h => h) (Or.inl ⟨by rfl, ?_⟩) ?_ ?_
        rotate_left
        · intro w'
          go_simp
          with_reducible rfl
        rotate_left
        · simp only [Act.put, List.setIfInBounds_toArray, List.set_cons_zero, List.set_cons_succ, i64_w, i32_w]
          rfl
        refine pure_ (i := 9) (N := some 41) (v := ?_) (a' := ?_) zB8_6 rfl rfl (any_of HT_.out (by kernel_rfl)) (fun _ _ _ h => h) (Or.inl ⟨by rfl, ?_⟩) ?_ ?_
        rotate_left
        · intro w'
          go_simp
          with_reducible rfl
        rotate_left
        · simp only [Act.put, List.setIfInBounds_toArray, List.set_cons_zero, List.set_cons_succ, i64_w, i32_w]
          rfl
        refine pure_ (i := 10) (N := some 42) (v := ?_) (a' := ?_) zB8_7 rfl rfl (any_of HT_.out (by kernel_rfl)) (fun _ _ _ h => h) (Or.inl ⟨by rfl, ?_⟩) ?_ ?_
        rotate_left
        · intro w'
          go_simp
          with_reducible rfl
        rotate_left
        · simp only [Act.put, List.setIfInBounds_toArray, List.set_cons_zero, List.set_cons_succ, i64_w, i32_w]
          rfl
        refine take_ (i := 1) (N := some 33) (v := ?_) (a' := ?_) zB8_8 rfl rfl (take_ofW HT_.out HW_.out (by kernel_rfl)) (fun _ _ _ h => h) (Or.inl ⟨by rfl, ?_⟩) hHeld ?_ ?_
        rotate_left
        · rintro w' ⟨s0, s1, s2⟩
          go_simp
          with_reducible rfl
        rotate_left
        · simp only [Act.put, List.setIfInBounds_toArray, List.set_cons_zero, List.set_cons_succ, i64_w, i32_w]
          rfl
        refine take_ (i := 4) (N := some 36) (v := ?_) (a' := ?_) zB8_9 rfl rfl (take_ofW HT_.out HW_.out (by kernel_rfl)) (fun _ _ _ h => h) (Or.inl ⟨by rfl, ?_⟩) hHeld ?_ ?_
        rotate_left
        · rintro w' ⟨s0, s1, s2⟩
          go_simp
          with_reducible rfl
        rotate_left
        · simp only [Act.put, List.setIfInBounds_toArray, List.set_cons_zero, List.set_cons_succ, i64_w, i32_w]
          rfl
        refine pure_ (i := 6) (N := some 38) (v := ?_) (a' := ?_) zB8_10 rfl rfl (any_of HT_.out (by kernel_rfl)) (fun _ _ _ h => h) (Or.inl ⟨by rfl, ?_⟩) ?_ ?_
        rotate_left
        · intro w'
          go_simp
          with_reducible rfl
        rotate_left
        · simp only [Act.put, List.setIfInBounds_toArray, List.set_cons_zero, List.set_cons_succ, i64_w, i32_w]
          rfl
        refine take_ (i := 7) (N := some 39) (v := ?_) (a' := ?_) zB8_11 rfl rfl (take_ofW HT_.out HW_.out (by kernel_rfl)) (fun _ _ _ h => h) (Or.inl ⟨by rfl, ?_⟩) hHeld ?_ ?_
        rotate_left
        · rintro w' ⟨s0, s1, s2⟩
          go_simp
          with_reducible rfl
        rotate_left
        · simp only [Act.put, List.setIfInBounds_toArray, List.set_cons_zero, List.set_cons_succ, i64_w, i32_w]
          rfl
        refine take_ (i := 11) (N := some 43) (v := ?_) (a' := ?_) zB8_12 rfl rfl (take_ofW HT_.out HW_.out (by kernel_rfl)) (fun _ _ _ h => h) (Or.inl ⟨by rfl, ?_⟩) hHeld ?_ ?_
        rotate_left
        · rintro w' ⟨s0, s1, s2⟩
          go_simp
          with_reducible rfl
        rotate_left
        · simp only [Act.put, List.setIfInBounds_toArray, List.set_cons_zero, List.set_cons_succ, i64_w, i32_w]
          rfl
        refine one_ (i := 12) (N := some 44) zB8_13 rfl rfl (one_of HT_.out (by kernel_rfl)) (by decide) (fun K hK => ?_)
        refine value_ (w1 := ?_) (v := ?_) (by rfl) rfl ?_ ?_
        rotate_left 2
        · go_simp
          constructor
          · rfl
          · rfl
        refine hK.out _ _ ⟨(blk_cell (blk_alloc T7.out _) 1).trans rfl, (World.cell?_alloc_lt _ _ _ (World.block_lt_of_cell? _ _ (hHeld.2.1))).trans (hHeld.2.1), (World.cell?_alloc_lt _ _ _ (World.block_lt_of_cell? _ _ (hHeld.2.2))).trans (hHeld.2.2)⟩ (fun hHeld => ?_)
        clear hK K
        refine norm_ (a' := ?_) ?_ ?_
        rotate_left
        · show Act.put _ (some 44) _ = _
          simp only [Act.put, List.setIfInBounds_toArray, List.set_cons_zero, List.set_cons_succ, i64_w, i32_w]
          rfl
        refine one_ (i := 13) (N := some 45) zB8_14 rfl rfl (one_of HT_.out (by kernel_rfl)) (by decide) (fun K hK => ?_)
        refine Kd.R_append_step (Kd.int .i64) (w0 := w) w.heap.size (by rfl) (.tmp 39) (.tmp 44) 22 3 (.int .i64 0) 8 rfl Try.underlying22 info3 rfl (by decide) (by omega) (.slice Ar row.length cr) row n [.int .i64 n] (fun k => oki k ∨ (Q2 k ∨ wd.heap.size ≤ k) ∧ wd.heap.size ≤ k) (fun _ => False) rfl rfl ?aP (fun _ hk => hk.elim) ?aF ?aO ?aB ?aS ?aL ?_
        (case aP => exact rfl)
        (case aB => exact B.out)
        (case aF => exact fun k hk => .inr ⟨.inr hk, hk⟩)
        (case aO => exact Kd.R_mono RO.out (fun _ hk => .inl hk))
        (case aS => exact B.out.size)
        (case aL => omega)
        intro v9 w9 ho hb hg hat
        have K9 := Aside0.mk (Kept.of_grown hg (Kept.refl wd Q2) (fun k e => .inl (HO.out k (RO.out.1 k e)).1))
        have ZW := Aside0.mk K9.out.1
        have T4 := Aside0.mk ((K9.out.2 b4 (blk_lt T4.out) (fun h => by have o4 := L4.out; have o5 := L5.out; have o6 := L6.out; have o7 := L7.out; have := DQ.out _ h; omega)).trans T4.out)
        have T5 := Aside0.mk ((K9.out.2 b5 (blk_lt T5.out) (fun h => by have o4 := L4.out; have o5 := L5.out; have o6 := L6.out; have o7 := L7.out; have := DQ.out _ h; omega)).trans T5.out)
        have T6 := Aside0.mk ((K9.out.2 b6 (blk_lt T6.out) (fun h => by have o4 := L4.out; have o5 := L5.out; have o6 := L6.out; have o7 := L7.out; have := DQ.out _ h; omega)).trans T6.out)
        have T7 := Aside0.mk ((K9.out.2 b7 (blk_lt T7.out) (fun h => by have o4 := L4.out; have o5 := L5.out; have o6 := L6.out; have o7 := L7.out; have := DQ.out _ h; omega)).trans T7.out)
        have SP := Aside0.mk (S_carry SP.out K9.out (fun k hk h => (DP.out k hk).2.1 h))
        have H9 := Aside0.mk (Kd.H_grown (Kd.H_widen (Kd.H_mono HH.out (fun k hk => (.inl hk : Q2 k ∨ wd.heap.size ≤ k)))) hg (fun k e => .inl (RO.out.1 k e)))
        have B := Aside0.mk hb
        obtain ⟨Ao, co, eo⟩ := Kd.R_slice ho
        subst eo
        have R9 := Aside0.mk ho
        obtain ⟨hc9, hf9⟩ := Kd.H_at H9.out (show (0 : Int) ≤ (r : Int) by omega) (show (r : Int) < (q2.length : Int) by omega)
        have hx9 := hc9 0 _ rfl
        have hy9 := hf9 0
        rw [show (r : Int).toNat * (Kd.slice 3 (Kd.int .i64)).sz + 0 = r from by show (r : Int).toNat * 1 + 0 = r; omega] at hx9 hy9
        clear ho hb hg hat hc9 hf9
        obtain ⟨ad3, e3_, hn9⟩ := Kd.at_int (Kd.C_below HR1.out B.out) (i : Int) (by omega) hlz1
        cases e3_
        rw [Int.toNat_natCast, ← NN_.out] at hn9
        refine hK.out _ _ ⟨(blk_cell T7.out 1).trans rfl, hx9, hn9⟩ (fun hHeld => ?_)
        clear hK K
        refine norm_ (a' := ?_) ?_ ?_
        rotate_left
        · show Act.put _ (some 45) _ = _
          simp only [Act.put, List.setIfInBounds_toArray, List.set_cons_zero, List.set_cons_succ, i64_w, i32_w]
          rfl
        refine pure_ (i := 14) (N := some 46) (v := ?_) (a' := ?_) zB8_15 rfl rfl (any_of HT_.out (by kernel_rfl)) (fun _ _ _ h => h) (Or.inl ⟨by rfl, ?_⟩) ?_ ?_
        rotate_left
        · intro w'
          go_simp
          with_reducible rfl
        rotate_left
        · simp only [Act.put, List.setIfInBounds_toArray, List.set_cons_zero, List.set_cons_succ, i64_w, i32_w]
          rfl
        refine last_ (i := 15) (N := none) zB8_16 rfl rfl (one_of HT_.out (by kernel_rfl)) (by decide) (fun K hK => ?_)
        refine skip_ (w1 := ?_) (by rfl) rfl ?_ ?_
        rotate_left
        · go_simp
          rfl
        refine hK.out _ _ ?_
        clear hK K
        refine done_ (done_of HT_.out (by kernel_rfl)) ?_
        have SF := Aside0.mk (Kd.S_seg0 H9.out (show (0 : Int) ≤ (r : Int) by omega) (show (r : Int) < (q2.length : Int) by omega) (seg := [.slice Ao (row ++ [n]).length co]) (j := 0) (show 1 ≤ 1 from by decide) (x' := row ++ [n]) (Kd.M_row R9.out) (fun _ hk => hk)).1
        rw [show (r : Int).toNat * (Kd.slice 3 (Kd.int .i64)).sz + 0 = r from by show (r : Int).toNat * 1 + 0 = r; omega, Int.toNat_natCast, show (row ++ [n]).length = row.length + 1 by simp] at SF
        have T4 := Aside0.mk (blk_far (p := ⟨g, r, none⟩) T4.out (show b4 ≠ g by have o4 := L4.out; have o5 := L5.out; have o6 := L6.out; have o7 := L7.out; have := G7.out; omega) (.slice Ao (row.length + 1) co))
        have T5 := Aside0.mk (blk_far (p := ⟨g, r, none⟩) T5.out (show b5 ≠ g by have o4 := L4.out; have o5 := L5.out; have o6 := L6.out; have o7 := L7.out; have := G7.out; omega) (.slice Ao (row.length + 1) co))
        have T6 := Aside0.mk (blk_far (p := ⟨g, r, none⟩) T6.out (show b6 ≠ g by have o4 := L4.out; have o5 := L5.out; have o6 := L6.out; have o7 := L7.out; have := G7.out; omega) (.slice Ao (row.length + 1) co))
        have T7 := Aside0.mk (blk_far (p := ⟨g, r, none⟩) T7.out (show b7 ≠ g by have o4 := L4.out; have o5 := L5.out; have o6 := L6.out; have o7 := L7.out; have := G7.out; omega) (.slice Ao (row.length + 1) co))
        have SP := Aside0.mk (Kd.S_far (p := ⟨g, r, none⟩) SP.out (fun k hk e => (DP.out k hk).2.1 (by rw [e]; exact GQ.out)) (.slice Ao (row.length + 1) co))
        have B := Aside0.mk (below_set (j := r) (v := .slice Ao (row.length + 1) co) B.out GB.out)
        have E1 : (bothAt l0 (fun k => rd l1 (k : Int)) (i + 1)).1 = insRows p x := by show insRows _ _ = _; rw [← PP.out, ← XX.out]
        have E2 : (bothAt l0 (fun k => rd l1 (k : Int)) (i + 1)).2 = q2.set r (row ++ [n]) := by show recQ _ _ _ = _; rw [← PP.out, ← QQ.out, ← XX.out, ← RR.out, RC.out, ← ROW.out]; rw [NN_.out]
        rw [← E1] at SP
        rw [← E2] at SF
        have DF : Aside0 (∀ k, P2 k → b7 < k ∧ ¬ (Q2 k ∨ wd.heap.size ≤ k)) := ⟨fun k hk => ⟨(DP.out k hk).1, fun h => by rcases h with h | h; exact (DP.out k hk).2.1 h; have := (DP.out k hk).2.2; omega⟩⟩
        have DG : Aside0 (∀ k, (Q2 k ∨ wd.heap.size ≤ k) → b7 < k) := ⟨fun k hk => by rcases hk with h | h; exact DQ.out k h; have := DZ.out; omega⟩
        have HL2 := HL.out
        clear E1 E2
        go_wp2
        go_roundg (l0.length - (i + 1))
        all_goals first
          | omega
          | exact ⟨i + 1, pv', .slice (some ⟨g, 0, none⟩) q2.length c2, P2, (fun k => Q2 k ∨ wd.heap.size ≤ k), by omega, by omega, by go_num, T4, T5, T6, T7, SP, SF, DF, DG, B⟩
      · have hrb : ((r : Int) == (q.length : Int)) = false := beq_eq_false_iff_ne.mpr (by omega)
        have RQ := Aside0.mk (show r < q.length from by have := RL.out; have := IV.out.1; omega)
        clear hrq
        go_wp2_with (go_at_call 70; refine IC.out.mono ?_; rintro e w6 ⟨rfl, ⟨pv', hT6, hS6⟩, hB6, hK6⟩; have K6 := Aside0.mk hK6; clear hK6; have m4 := Aside0.mk ((K6.out.2 b4 (blk_lt T4.out) (fun h => by have o4 := L4.out; have o5 := L5.out; have o6 := L6.out; have o7 := L7.out; rcases h with h | h; have := (HP.out _ h).1; omega; omega)).trans T4.out); have m5 := Aside0.mk ((K6.out.2 b5 (blk_lt T5.out) (fun h => by have o4 := L4.out; have o5 := L5.out; have o6 := L6.out; have o7 := L7.out; rcases h with h | h; have := (HP.out _ h).1; omega; omega)).trans T5.out); have m7 := Aside0.mk ((K6.out.2 b7 (blk_lt T7.out) (fun h => by have o4 := L4.out; have o5 := L5.out; have o6 := L6.out; have o7 := L7.out; rcases h with h | h; have := (HP.out _ h).1; omega; omega)).trans T7.out); have m6 := Aside0.mk hT6; have mP := Aside0.mk (Kd.S_mono (ok' := fun k => (P k ∨ wr.heap.size ≤ k) ∧ k < w6.heap.size) (Kd.S_bound hS6) (fun k hk => ⟨hk.1, hk.2.2.1⟩)); have mQ := Aside0.mk (S_carry SQ0.out K6.out (fun k hk h => by have o4 := L4.out; have o5 := L5.out; have o6 := L6.out; have o7 := L7.out; rcases h with h | h; exact (HP.out _ h).2 hk.1; have := HQ.out _ hk.1; omega)); have mB := Aside0.mk hB6; have zw := Aside0.mk K6.out.1; clear hT6 hS6 hB6 T4 T5 T6 T7 SP SQ0; have hz7_1 : w6.cell? ⟨b7, 1, none⟩ = some (.slice Aq q.length cq) := (blk_cell m7.out 1).trans rfl; have hf7_1 := blk_frozen m7.out 1)
        have o4 := L4.out; have o5 := L5.out; have o6 := L6.out; have o7 := L7.out
        clear hz7_1 hf7_1
        have T4 := m4
        have T5 := m5
        have T6 := m6
        have B := mB
        have zy := Aside0.mk (blk_lt m7.out)
        clear m4 m5 m6 mB
        obtain ⟨wz, hwz⟩ : ∃ wz, wz = w6 := ⟨_, rfl⟩
        have zz := Aside0.mk (show w6.heap.size ≤ wz.heap.size by rw [hwz]; exact Nat.le_refl _)
        subst hwz
        have ST : ∃ (P2 Q2 : Nat → Prop) (q2 : List (List Int)) (A2 : Option Addr) (c2 : Nat), Aside0 (wz.heap[b7]? = some (.cells #[.slice none 0 0, .slice A2 q2.length c2] 40 (0, 0))) ∧ Aside0 (Kd.S (Kd.slice 3 (Kd.int .i64)) 22 wz w.heap.size P2 pv' (insRows p x)) ∧ Aside0 (Kd.S (Kd.slice 3 (Kd.int .i64)) 22 wz w.heap.size Q2 (.slice A2 q2.length c2) q2) ∧ Aside0 (∀ k, P2 k → b7 < k ∧ ¬ Q2 k ∧ k < wz.heap.size) ∧ Aside0 (∀ k, Q2 k → b7 < k) ∧ Aside0 (r < q2.length) ∧ Aside0 (q2.length ≤ i + 1) ∧ Aside0 (∀ s ∈ q2, s.length ≤ i) ∧ Aside0 (∀ n, recQ q r n = q2.set r (q2.getD r [] ++ [n])) := by
          refine ⟨_, _, q, _, _, m7, mP, mQ, ⟨?_⟩, ⟨?_⟩, ⟨?_⟩, ⟨?_⟩, ⟨?_⟩, ⟨?_⟩⟩
          · rintro k ⟨hk1, hk2⟩; have z2 := ZB.out; refine ⟨?_, fun h => ?_, hk2⟩; (rcases hk1 with h | h; exact (HP.out k h).1; omega); (rcases hk1 with h2 | h2; exact (HP.out k h2).2 h.1; have := h.2; omega)
          · rintro k h; exact HQ.out k h.1
          · exact RQ.out
          · have := IV.out.1; have := IV.out.2.1; omega
          · exact IV.out.2.2.2
          · intro n; unfold recQ; rw [if_neg (by have := RQ.out; omega)]
        obtain ⟨P2, Q2, q2, A2, c2, T7, SP, SQ, DP, DQ, RQ2, QL, QB, RC⟩ := ST
        have HRQ := RQ2.out
        obtain ⟨g, cc, e0⟩ : ∃ g cc, (Value.slice A2 q2.length c2) = .slice (some ⟨g, 0, none⟩) q2.length cc := by
          obtain ⟨g, cc, e0, _⟩ := Kd.R_form (Kd.S_R SQ.out) (by omega)
          injection e0 with ea el ec
          exact ⟨g, c2, by rw [ea]⟩
        injection e0 with ea _ ec
        subst ea ec
        have GB := Aside0.mk (Kd.R_base (Kd.S_R SQ.out) g (by simp [Value.ownBlock]))
        have GQ := Aside0.mk ((Kd.S_R SQ.out).1 g (by simp [Value.ownBlock]))
        have G7 := Aside0.mk (DQ.out g GQ.out)
        have T4 := Aside0.mk (blk_drew T4.out)
        have T5 := Aside0.mk (blk_drew T5.out)
        have T6 := Aside0.mk (blk_drew T6.out)
        have T7 := Aside0.mk (blk_drew T7.out)
        have SP := Aside0.mk (Kd.S_drew SP.out)
        have B := Aside0.mk (below_drew B.out)
        have DP : Aside0 (∀ k, P2 k → b7 < k ∧ ¬ Q2 k ∧ k < wz.drew.heap.size) := ⟨DP.out⟩
        have DZ : Aside0 (b7 < wz.drew.heap.size) := ⟨blk_lt T7.out⟩
        obtain ⟨oki, cs, hcl, hM, hcc, hfr, hoki, hH⟩ := Kd.S_elem (Kd.S_drew SQ.out) [] (r : Int) (by omega) (by omega)
        rw [Int.toNat_natCast] at hM
        obtain ⟨v, rfl, hR⟩ := hM
        obtain ⟨Ar, cr, e1⟩ := Kd.R_slice hR
        subst e1
        have hx1 := hcc 0 _ rfl
        rw [show (r : Int).toNat * (Kd.slice 3 (Kd.int .i64)).sz + 0 = r from by show (r : Int).toNat * 1 + 0 = r; omega] at hx1
        obtain ⟨row, hrow⟩ : ∃ row, row = q2.getD r [] := ⟨_, rfl⟩
        rw [← hrow] at hx1 hR hH
        have hrl : row.length ≤ 900 := by
          have := HL.out
          rw [hrow, List.getD_eq_getElem?_getD, List.getElem?_eq_getElem HRQ]
          have := QB.out _ (List.getElem_mem HRQ)
          simp only [Option.getD_some]; omega
        have ROW := Aside0.mk hrow
        have RO := Aside0.mk hR
        have HO := Aside0.mk hoki
        have HH := Aside0.mk hH
        clear hrow hR hoki hH hcc hfr hcl SQ
        obtain ⟨ad2, e2_, hn1⟩ := Kd.at_int (Kd.C_below HR1.out B.out) (i : Int) (by omega) hlz1
        cases e2_
        rw [Int.toNat_natCast] at hn1
        obtain ⟨n, hn_⟩ : ∃ n, n = rd l1 (i : Int) := ⟨_, rfl⟩
        rw [← hn_] at hn1
        have NN_ := Aside0.mk hn_
        clear hn_
        have hrz : (r : Int) < (q2.length : Int) := by omega
        refine start_ (n := 16) (S := fun w' => w'.cell? ⟨b7, 1, none⟩ = some (.slice (some ⟨g, 0, none⟩) q2.length c2) ∧ w'.cell? ⟨g, r, none⟩ = some (.slice Ar row.length cr) ∧ w'.cell? (ad1.add i) = some (.int .i64 n)) (ds := [15]) zB8_0 (by kernel_rfl) rfl rfl ⟨(blk_cell T7.out 1).trans rfl, hx1, hn1⟩ (fun hHeld => ?_)
        refine with_tabW insertedWith8.tab insertedWith8.bits (fun HT_ HW_ => ?_)
        generalize wz.drew = wd at T4 T5 T6 T7 SP B DP DZ RO HH hx1 hn1 hHeld ⊢
        refine pure_ (i := 0) (N := some 32) (v := ?_) (a' := ?_) zB8_1 rfl rfl (any_of HT_.out (by kernel_rfl)) (fun _ _ _ h => h) (Or.inl ⟨by rfl, ?_⟩) ?_ ?_
        rotate_left
        · intro w'
          go_simp
          with_reducible rfl
        rotate_left
        · simp only [Act.put, List.setIfInBounds_toArray, List.set_cons_zero, List.set_cons_succ, i64_w, i32_w]
          rfl
        refine pure_ (i := 2) (N := some 34) (v := ?_) (a' := ?_) zB8_2 rfl rfl (any_of HT_.out (by kernel_rfl)) (fun _ _ _ h => h) (Or.inl ⟨by rfl, ?_⟩) ?_ ?_
        rotate_left
        · intro w'
          go_simp
          with_reducible rfl
        rotate_left
        · simp only [Act.put, List.setIfInBounds_toArray, List.set_cons_zero, List.set_cons_succ, i64_w, i32_w]
          rfl
        refine pure_ (i := 3) (N := some 35) (v := ?_) (a' := ?_) zB8_3 rfl rfl (any_of HT_.out (by kernel_rfl)) (fun _ _ _ h => h) (Or.inl ⟨by rfl, ?_⟩) ?_ ?_
        rotate_left
        · intro w'
          go_simp
          with_reducible rfl
        rotate_left
        · simp only [Act.put, List.setIfInBounds_toArray, List.set_cons_zero, List.set_cons_succ, i64_w, i32_w]
          rfl
        refine pure_ (i := 5) (N := some 37) (v := ?_) (a' := ?_) zB8_4 rfl rfl (any_of HT_.out (by kernel_rfl)) (fun _ _ _ h => h) (Or.inl ⟨by rfl, ?_⟩) ?_ ?_
        rotate_left
        · intro w'
          go_simp
          with_reducible rfl
        rotate_left
        · simp only [Act.put, List.setIfInBounds_toArray, List.set_cons_zero, List.set_cons_succ, i64_w, i32_w]
          rfl
        refine pure_ (i := 8) (N := some 40) (v := ?_) (a' := ?_) zB8_5 rfl rfl (any_of HT_.out (by kernel_rfl)) (fun _ _ _ h => h) (Or.inl ⟨by rfl, ?_⟩) ?_ ?_
        rotate_left
        · intro w'
          go_simp
          with_reducible rfl
        rotate_left
        · simp only [Act.put, List.setIfInBounds_toArray, List.set_cons_zero, List.set_cons_succ, i64_w, i32_w]
          rfl
        refine pure_ (i := 9) (N := some 41) (v := ?_) (a' := ?_) zB8_6 rfl rfl (any_of HT_.out (by kernel_rfl)) (fun _ _ _ h => h) (Or.inl ⟨by rfl, ?_⟩) ?_ ?_
        rotate_left
        · intro w'
          go_simp
          with_reducible rfl
        rotate_left
        · simp only [Act.put, List.setIfInBounds_toArray, List.set_cons_zero, List.set_cons_succ, i64_w, i32_w]
          rfl
        refine pure_ (i := 10) (N := some 42) (v := ?_) (a' := ?_) zB8_7 rfl rfl (any_of HT_.out (by kernel_rfl)) (fun _ _ _ h => h) (Or.inl ⟨by rfl, ?_⟩) ?_ ?_
        rotate_left
        · intro w'
          go_simp
          with_reducible rfl
        rotate_left
        · simp only [Act.put, List.setIfInBounds_toArray, List.set_cons_zero, List.set_cons_succ, i64_w, i32_w]
          rfl
        refine take_ (i := 1) (N := some 33) (v := ?_) (a' := ?_) zB8_8 rfl rfl (take_ofW HT_.out HW_.out (by kernel_rfl)) (fun _ _ _ h => h) (Or.inl ⟨by rfl, ?_⟩) hHeld ?_ ?_
        rotate_left
        · rintro w' ⟨s0, s1, s2⟩
          go_simp
          with_reducible rfl
        rotate_left
        · simp only [Act.put, List.setIfInBounds_toArray, List.set_cons_zero, List.set_cons_succ, i64_w, i32_w]
          rfl
        refine take_ (i := 4) (N := some 36) (v := ?_) (a' := ?_) zB8_9 rfl rfl (take_ofW HT_.out HW_.out (by kernel_rfl)) (fun _ _ _ h => h) (Or.inl ⟨by rfl, ?_⟩) hHeld ?_ ?_
        rotate_left
        · rintro w' ⟨s0, s1, s2⟩
          go_simp
          with_reducible rfl
        rotate_left
        · simp only [Act.put, List.setIfInBounds_toArray, List.set_cons_zero, List.set_cons_succ, i64_w, i32_w]
          rfl
        refine pure_ (i := 6) (N := some 38) (v := ?_) (a' := ?_) zB8_10 rfl rfl (any_of HT_.out (by kernel_rfl)) (fun _ _ _ h => h) (Or.inl ⟨by rfl, ?_⟩) ?_ ?_
        rotate_left
        · intro w'
          go_simp
          with_reducible rfl
        rotate_left
        · simp only [Act.put, List.setIfInBounds_toArray, List.set_cons_zero, List.set_cons_succ, i64_w, i32_w]
          rfl
        refine take_ (i := 7) (N := some 39) (v := ?_) (a' := ?_) zB8_11 rfl rfl (take_ofW HT_.out HW_.out (by kernel_rfl)) (fun _ _ _ h => h) (Or.inl ⟨by rfl, ?_⟩) hHeld ?_ ?_
        rotate_left
        · rintro w' ⟨s0, s1, s2⟩
          go_simp
          with_reducible rfl
        rotate_left
        · simp only [Act.put, List.setIfInBounds_toArray, List.set_cons_zero, List.set_cons_succ, i64_w, i32_w]
          rfl
        refine take_ (i := 11) (N := some 43) (v := ?_) (a' := ?_) zB8_12 rfl rfl (take_ofW HT_.out HW_.out (by kernel_rfl)) (fun _ _ _ h => h) (Or.inl ⟨by rfl, ?_⟩) hHeld ?_ ?_
        rotate_left
        · rintro w' ⟨s0, s1, s2⟩
          go_simp
          with_reducible rfl
        rotate_left
        · simp only [Act.put, List.setIfInBounds_toArray, List.set_cons_zero, List.set_cons_succ, i64_w, i32_w]
          rfl
        refine one_ (i := 12) (N := some 44) zB8_13 rfl rfl (one_of HT_.out (by kernel_rfl)) (by decide) (fun K hK => ?_)
        refine value_ (w1 := ?_) (v := ?_) (by rfl) rfl ?_ ?_
        rotate_left 2
        · go_simp
          constructor
          · rfl
          · rfl
        refine hK.out _ _ ⟨(blk_cell (blk_alloc T7.out _) 1).trans rfl, (World.cell?_alloc_lt _ _ _ (World.block_lt_of_cell? _ _ (hHeld.2.1))).trans (hHeld.2.1), (World.cell?_alloc_lt _ _ _ (World.block_lt_of_cell? _ _ (hHeld.2.2))).trans (hHeld.2.2)⟩ (fun hHeld => ?_)
        clear hK K
        refine norm_ (a' := ?_) ?_ ?_
        rotate_left
        · show Act.put _ (some 44) _ = _
          simp only [Act.put, List.setIfInBounds_toArray, List.set_cons_zero, List.set_cons_succ, i64_w, i32_w]
          rfl
        refine one_ (i := 13) (N := some 45) zB8_14 rfl rfl (one_of HT_.out (by kernel_rfl)) (by decide) (fun K hK => ?_)
        refine Kd.R_append_step (Kd.int .i64) (w0 := w) w.heap.size (by rfl) (.tmp 39) (.tmp 44) 22 3 (.int .i64 0) 8 rfl Try.underlying22 info3 rfl (by decide) (by omega) (.slice Ar row.length cr) row n [.int .i64 n] (fun k => oki k ∨ (Q2 k ∨ wd.heap.size ≤ k) ∧ wd.heap.size ≤ k) (fun _ => False) rfl rfl ?aP (fun _ hk => hk.elim) ?aF ?aO ?aB ?aS ?aL ?_
        (case aP => exact rfl)
        (case aB => exact B.out)
        (case aF => exact fun k hk => .inr ⟨.inr hk, hk⟩)
        (case aO => exact Kd.R_mono RO.out (fun _ hk => .inl hk))
        (case aS => exact B.out.size)
        (case aL => omega)
        intro v9 w9 ho hb hg hat
        have K9 := Aside0.mk (Kept.of_grown hg (Kept.refl wd Q2) (fun k e => .inl (HO.out k (RO.out.1 k e)).1))
        have ZW := Aside0.mk K9.out.1
        have T4 := Aside0.mk ((K9.out.2 b4 (blk_lt T4.out) (fun h => by have o4 := L4.out; have o5 := L5.out; have o6 := L6.out; have o7 := L7.out; have := DQ.out _ h; omega)).trans T4.out)
        have T5 := Aside0.mk ((K9.out.2 b5 (blk_lt T5.out) (fun h => by have o4 := L4.out; have o5 := L5.out; have o6 := L6.out; have o7 := L7.out; have := DQ.out _ h; omega)).trans T5.out)
        have T6 := Aside0.mk ((K9.out.2 b6 (blk_lt T6.out) (fun h => by have o4 := L4.out; have o5 := L5.out; have o6 := L6.out; have o7 := L7.out; have := DQ.out _ h; omega)).trans T6.out)
        have T7 := Aside0.mk ((K9.out.2 b7 (blk_lt T7.out) (fun h => by have o4 := L4.out; have o5 := L5.out; have o6 := L6.out; have o7 := L7.out; have := DQ.out _ h; omega)).trans T7.out)
        have SP := Aside0.mk (S_carry SP.out K9.out (fun k hk h => (DP.out k hk).2.1 h))
        have H9 := Aside0.mk (Kd.H_grown (Kd.H_widen (Kd.H_mono HH.out (fun k hk => (.inl hk : Q2 k ∨ wd.heap.size ≤ k)))) hg (fun k e => .inl (RO.out.1 k e)))
        have B := Aside0.mk hb
        obtain ⟨Ao, co, eo⟩ := Kd.R_slice ho
        subst eo
        have R9 := Aside0.mk ho
        obtain ⟨hc9, hf9⟩ := Kd.H_at H9.out (show (0 : Int) ≤ (r : Int) by omega) (show (r : Int) < (q2.length : Int) by omega)
        have hx9 := hc9 0 _ rfl
        have hy9 := hf9 0
        rw [show (r : Int).toNat * (Kd.slice 3 (Kd.int .i64)).sz + 0 = r from by show (r : Int).toNat * 1 + 0 = r; omega] at hx9 hy9
        clear ho hb hg hat hc9 hf9
        obtain ⟨ad3, e3_, hn9⟩ := Kd.at_int (Kd.C_below HR1.out B.out) (i : Int) (by omega) hlz1
        cases e3_
        rw [Int.toNat_natCast, ← NN_.out] at hn9
        refine hK.out _ _ ⟨(blk_cell T7.out 1).trans rfl, hx9, hn9⟩ (fun hHeld => ?_)
        clear hK K
        refine norm_ (a' := ?_) ?_ ?_
        rotate_left
        · show Act.put _ (some 45) _ = _
          simp only [Act.put, List.setIfInBounds_toArray, List.set_cons_zero, List.set_cons_succ, i64_w, i32_w]
          rfl
        refine pure_ (i := 14) (N := some 46) (v := ?_) (a' := ?_) zB8_15 rfl rfl (any_of HT_.out (by kernel_rfl)) (fun _ _ _ h => h) (Or.inl ⟨by rfl, ?_⟩) ?_ ?_
        rotate_left
        · intro w'
          go_simp
          with_reducible rfl
        rotate_left
        · simp only [Act.put, List.setIfInBounds_toArray, List.set_cons_zero, List.set_cons_succ, i64_w, i32_w]
          rfl
        refine last_ (i := 15) (N := none) zB8_16 rfl rfl (one_of HT_.out (by kernel_rfl)) (by decide) (fun K hK => ?_)
        refine skip_ (w1 := ?_) (by rfl) rfl ?_ ?_
        rotate_left
        · go_simp
          rfl
        refine hK.out _ _ ?_
        clear hK K
        refine done_ (done_of HT_.out (by kernel_rfl)) ?_
        have SF := Aside0.mk (Kd.S_seg0 H9.out (show (0 : Int) ≤ (r : Int) by omega) (show (r : Int) < (q2.length : Int) by omega) (seg := [.slice Ao (row ++ [n]).length co]) (j := 0) (show 1 ≤ 1 from by decide) (x' := row ++ [n]) (Kd.M_row R9.out) (fun _ hk => hk)).1
        rw [show (r : Int).toNat * (Kd.slice 3 (Kd.int .i64)).sz + 0 = r from by show (r : Int).toNat * 1 + 0 = r; omega, Int.toNat_natCast, show (row ++ [n]).length = row.length + 1 by simp] at SF
        have T4 := Aside0.mk (blk_far (p := ⟨g, r, none⟩) T4.out (show b4 ≠ g by have o4 := L4.out; have o5 := L5.out; have o6 := L6.out; have o7 := L7.out; have := G7.out; omega) (.slice Ao (row.length + 1) co))
        have T5 := Aside0.mk (blk_far (p := ⟨g, r, none⟩) T5.out (show b5 ≠ g by have o4 := L4.out; have o5 := L5.out; have o6 := L6.out; have o7 := L7.out; have := G7.out; omega) (.slice Ao (row.length + 1) co))
        have T6 := Aside0.mk (blk_far (p := ⟨g, r, none⟩) T6.out (show b6 ≠ g by have o4 := L4.out; have o5 := L5.out; have o6 := L6.out; have o7 := L7.out; have := G7.out; omega) (.slice Ao (row.length + 1) co))
        have T7 := Aside0.mk (blk_far (p := ⟨g, r, none⟩) T7.out (show b7 ≠ g by have o4 := L4.out; have o5 := L5.out; have o6 := L6.out; have o7 := L7.out; have := G7.out; omega) (.slice Ao (row.length + 1) co))
        have SP := Aside0.mk (Kd.S_far (p := ⟨g, r, none⟩) SP.out (fun k hk e => (DP.out k hk).2.1 (by rw [e]; exact GQ.out)) (.slice Ao (row.length + 1) co))
        have B := Aside0.mk (below_set (j := r) (v := .slice Ao (row.length + 1) co) B.out GB.out)
        have E1 : (bothAt l0 (fun k => rd l1 (k : Int)) (i + 1)).1 = insRows p x := by show insRows _ _ = _; rw [← PP.out, ← XX.out]
        have E2 : (bothAt l0 (fun k => rd l1 (k : Int)) (i + 1)).2 = q2.set r (row ++ [n]) := by show recQ _ _ _ = _; rw [← PP.out, ← QQ.out, ← XX.out, ← RR.out, RC.out, ← ROW.out]; rw [NN_.out]
        rw [← E1] at SP
        rw [← E2] at SF
        have DF : Aside0 (∀ k, P2 k → b7 < k ∧ ¬ (Q2 k ∨ wd.heap.size ≤ k)) := ⟨fun k hk => ⟨(DP.out k hk).1, fun h => by rcases h with h | h; exact (DP.out k hk).2.1 h; have := (DP.out k hk).2.2; omega⟩⟩
        have DG : Aside0 (∀ k, (Q2 k ∨ wd.heap.size ≤ k) → b7 < k) := ⟨fun k hk => by rcases hk with h | h; exact DQ.out k h; have := DZ.out; omega⟩
        have HL2 := HL.out
        clear E1 E2
        go_wp2
        go_roundg (l0.length - (i + 1))
        all_goals first
          | omega
          | exact ⟨i + 1, pv', .slice (some ⟨g, 0, none⟩) q2.length c2, P2, (fun k => Q2 k ∨ wd.heap.size ≤ k), by omega, by omega, by go_num, T4, T5, T6, T7, SP, SF, DF, DG, B⟩
    · have hie : i = l0.length := by omega
      have hltz : ¬ (i : Int) < (l0.length : Int) := by omega
      have HE := Aside0.mk hie
      clear hie
      have o4 := L4.out; have o5 := L5.out; have o6 := L6.out; have o7 := L7.out
      obtain ⟨Ap, cp, ep_⟩ := Kd.R_slice (Kd.S_R SP.out)
      subst ep_
      obtain ⟨Aq, cq, eq_⟩ := Kd.R_slice (Kd.S_R SQ.out)
      subst eq_
      have T4d := blk_drew T4.out
      have T5d := blk_drew T5.out
      have T6d := blk_drew T6.out
      have T7d := blk_drew T7.out
      have hz4_0 : wr.cell? ⟨b4, 0, none⟩ = some (.slice none 0 0) := (blk_cell T4.out 0).trans rfl
      have hd4_0 : wr.drew.cell? ⟨b4, 0, none⟩ = some (.slice none 0 0) := (blk_cell T4d 0).trans rfl
      have hf4_0 := blk_frozen T4.out 0
      have hg4_0 := blk_frozen T4d 0
      have hz4_1 : wr.cell? ⟨b4, 1, none⟩ = some (.slice none 0 0) := (blk_cell T4.out 1).trans rfl
      have hd4_1 : wr.drew.cell? ⟨b4, 1, none⟩ = some (.slice none 0 0) := (blk_cell T4d 1).trans rfl
      have hf4_1 := blk_frozen T4.out 1
      have hg4_1 := blk_frozen T4d 1
      have hz5_0 : wr.cell? ⟨b5, 0, none⟩ = some (.slice none 0 0) := (blk_cell T5.out 0).trans rfl
      have hd5_0 : wr.drew.cell? ⟨b5, 0, none⟩ = some (.slice none 0 0) := (blk_cell T5d 0).trans rfl
      have hf5_0 := blk_frozen T5.out 0
      have hg5_0 := blk_frozen T5d 0
      have hz5_1 : wr.cell? ⟨b5, 1, none⟩ = some (.slice none 0 0) := (blk_cell T5.out 1).trans rfl
      have hd5_1 : wr.drew.cell? ⟨b5, 1, none⟩ = some (.slice none 0 0) := (blk_cell T5d 1).trans rfl
      have hf5_1 := blk_frozen T5.out 1
      have hg5_1 := blk_frozen T5d 1
      have hz6_0 : wr.cell? ⟨b6, 0, none⟩ = some (.slice none 0 0) := (blk_cell T6.out 0).trans rfl
      have hd6_0 : wr.drew.cell? ⟨b6, 0, none⟩ = some (.slice none 0 0) := (blk_cell T6d 0).trans rfl
      have hf6_0 := blk_frozen T6.out 0
      have hg6_0 := blk_frozen T6d 0
      have hz6_1 : wr.cell? ⟨b6, 1, none⟩ = some (.slice Ap (bothAt l0 (fun k => rd l1 (k : Int)) i).1.length cp) := (blk_cell T6.out 1).trans rfl
      have hd6_1 : wr.drew.cell? ⟨b6, 1, none⟩ = some (.slice Ap (bothAt l0 (fun k => rd l1 (k : Int)) i).1.length cp) := (blk_cell T6d 1).trans rfl
      have hf6_1 := blk_frozen T6.out 1
      have hg6_1 := blk_frozen T6d 1
      have hz7_0 : wr.cell? ⟨b7, 0, none⟩ = some (.slice none 0 0) := (blk_cell T7.out 0).trans rfl
      have hd7_0 : wr.drew.cell? ⟨b7, 0, none⟩ = some (.slice none 0 0) := (blk_cell T7d 0).trans rfl
      have hf7_0 := blk_frozen T7.out 0
      have hg7_0 := blk_frozen T7d 0
      have hz7_1 : wr.cell? ⟨b7, 1, none⟩ = some (.slice Aq (bothAt l0 (fun k => rd l1 (k : Int)) i).2.length cq) := (blk_cell T7.out 1).trans rfl
      have hd7_1 : wr.drew.cell? ⟨b7, 1, none⟩ = some (.slice Aq (bothAt l0 (fun k => rd l1 (k : Int)) i).2.length cq) := (blk_cell T7d 1).trans rfl
      have hf7_1 := blk_frozen T7.out 1
      have hg7_1 := blk_frozen T7d 1
      have ne4_5 : b4 ≠ b5 := by omega
      have ne4_6 : b4 ≠ b6 := by omega
      have ne4_7 : b4 ≠ b7 := by omega
      have ne5_4 : b5 ≠ b4 := by omega
      have ne5_6 : b5 ≠ b6 := by omega
      have ne5_7 : b5 ≠ b7 := by omega
      have ne6_4 : b6 ≠ b4 := by omega
      have ne6_5 : b6 ≠ b5 := by omega
      have ne6_7 : b6 ≠ b7 := by omega
      have ne7_4 : b7 ≠ b4 := by omega
      have ne7_5 : b7 ≠ b5 := by omega
      have ne7_6 : b7 ≠ b6 := by omega
      have OO := Aside0.mk (show w.heap.size ≤ b4 ∧ w.heap.size ≤ b5 from by constructor <;> omega)
      have hlw := blk_lt T4.out
      clear T4d T5d T6d T7d
      go_wp2
      go_region_with fail
      all_goals go_wp2
      all_goals have he_ := HE.out
      all_goals subst he_
      all_goals refine bodyPost_ret (results_cc rfl _ _ b4 b5 40 40 #[.slice none 0 0, .slice Ap (bothAt l0 (fun k => rd l1 (k : Int)) l0.length).1.length cp] #[.slice none 0 0, .slice Aq (bothAt l0 (fun k => rd l1 (k : Int)) l0.length).2.length cq] (0, 0) (0, 0) _ _ rfl (blk_drew (blk_far (blk_far (blk_put (cs' := #[.slice none 0 0, .slice Ap (bothAt l0 (fun k => rd l1 (k : Int)) l0.length).1.length cp]) (blk_put (cs' := #[.slice none 0 0, .slice none 0 0]) T4.out 0 _ rfl) 1 _ rfl) ne4_5 _) ne4_5 _)) Try.underlying40 rfl (by kernel_rfl) rfl (blk_drew (blk_put (cs' := #[.slice none 0 0, .slice Aq (bothAt l0 (fun k => rd l1 (k : Int)) l0.length).2.length cq]) (blk_put (cs' := #[.slice none 0 0, .slice none 0 0]) (blk_far (blk_far T5.out ne5_4 _) ne5_4 _) 0 _ rfl) 1 _ rfl)) Try.underlying40 rfl (by kernel_rfl)) rfl ?_
      all_goals refine ⟨_, _, P, Q, ?_, fun k hk => (HP.out k hk).2, Kd.S_drew (Kd.S_far (p := ⟨b5, 1, none⟩) (Kd.S_far (p := ⟨b5, 0, none⟩) (Kd.S_far (p := ⟨b4, 1, none⟩) (Kd.S_far (p := ⟨b4, 0, none⟩) SP.out (fun k hk e => by have e2_ : k = b4 := e; have := (HP.out k hk).1; omega) _) (fun k hk e => by have e2_ : k = b4 := e; have := (HP.out k hk).1; omega) _) (fun k hk e => by have e2_ : k = b5 := e; have := (HP.out k hk).1; omega) _) (fun k hk e => by have e2_ : k = b5 := e; have := (HP.out k hk).1; omega) _), Kd.S_drew (Kd.S_far (p := ⟨b5, 1, none⟩) (Kd.S_far (p := ⟨b5, 0, none⟩) (Kd.S_far (p := ⟨b4, 1, none⟩) (Kd.S_far (p := ⟨b4, 0, none⟩) SQ.out (fun k hk e => by have e2_ : k = b4 := e; have := HQ.out k hk; omega) _) (fun k hk e => by have e2_ : k = b4 := e; have := HQ.out k hk; omega) _) (fun k hk e => by have e2_ : k = b5 := e; have := HQ.out k hk; omega) _) (fun k hk e => by have e2_ : k = b5 := e; have := HQ.out k hk; omega) _), below_drew (below_set (below_set (below_set (below_set HB.out OO.out.1) OO.out.1) OO.out.2) OO.out.2)⟩
      all_goals first | rfl | simp

-- NOT PRINTED: function 38 (impl_PairOfMatrix)

/-! ### laws_eqTableau: function 39 -/
def laws_eqTableau.f (k : Nat) (l0_0 : List Int) (l0_1 : List (List Int)) (l1_0 : List Int) (l1_1 : List (List Int)) : Option (Bool) := (laws_eqIntS.f k l0_0 l1_0).bind fun t250 => (if t250 = true then ((laws_eqIntSS.f k l0_1 l1_1).bind fun t251 => (if t251 = true then (some true) else (some false))) else (some false))
theorem laws_eqTableau.mono : ∀ a0 a1 a2 a3 k, LeO (laws_eqTableau.f k a0 a1 a2 a3) (laws_eqTableau.f (k + 1) a0 a1 a2 a3) := by
 intro a0 a1 a2 a3 k
 unfold laws_eqTableau.f
 repeat' first
   | (with_reducible exact laws_eqIntS.mono _ _ _)
   | (with_reducible exact laws_eqIntSS.mono _ _ _)
   | (with_reducible exact LeO.refl _)
   | (with_reducible exact LeO.none _)
   | (with_reducible refine LeO.ite ?_ ?_)
   | (with_reducible refine LeO.bind ?_ (fun _ => ?_))
   | exact laws_eqIntS.mono _ _ _
   | exact laws_eqIntSS.mono _ _ _
   | exact LeO.none _
   | refine LeO.ite ?_ ?_
   | refine LeO.bind ?_ (fun _ => ?_)
set_option maxHeartbeats 8000000 in
set_option maxRecDepth 100000 in
theorem laws_eqTableau.calls (k : Nat) (A0_0 : Option Addr) (c0_0 : Nat) (l0_0 : List Int) (A0_1 : Option Addr) (c0_1 : Nat) (l0_1 : List (List Int)) (A1_0 : Option Addr) (c1_0 : Nat) (l1_0 : List Int) (A1_1 : Option Addr) (c1_1 : Nat) (l1_1 : List (List Int)) (r : Bool) (w : World) (hr0_0 : Kd.C (Kd.int .i64) w A0_0 l0_0.length l0_0) (hc0_0 : l0_0.length ≤ c0_0) (hr0_1 : Kd.C (Kd.slice 3 (Kd.int .i64)) w A0_1 l0_1.length l0_1) (hc0_1 : l0_1.length ≤ c0_1) (hr1_0 : Kd.C (Kd.int .i64) w A1_0 l1_0.length l1_0) (hc1_0 : l1_0.length ≤ c1_0) (hr1_1 : Kd.C (Kd.slice 3 (Kd.int .i64)) w A1_1 l1_1.length l1_1) (hc1_1 : l1_1.length ≤ c1_1) (h : laws_eqTableau.f k l0_0 l0_1 l1_0 l1_1 = some r) :
  Calls Try.prog 39 #[.agg #[.slice A0_0 l0_0.length c0_0, .slice A0_1 l0_1.length c0_1], .agg #[.slice A1_0 l1_0.length c1_0, .slice A1_1 l1_1.length c1_1]] w fun e w' => e = .returned (.bool r) ∧ Below w.heap.size w w' := by
 have hu40 := Try.underlying40
 have HR0_0 := Aside0.mk hr0_0
 have HC0_0 := Aside0.mk hc0_0
 clear hr0_0 hc0_0
 have HR0_1 := Aside0.mk hr0_1
 have HC0_1 := Aside0.mk hc0_1
 clear hr0_1 hc0_1
 have HR1_0 := Aside0.mk hr1_0
 have HC1_0 := Aside0.mk hc1_0
 clear hr1_0 hc1_0
 have HR1_1 := Aside0.mk hr1_1
 have HC1_1 := Aside0.mk hc1_1
 clear hr1_1 hc1_1
 have HB := Aside0.mk (Below.refl w.heap.size w)
 have H : ((laws_eqIntS.f k l0_0 l1_0).bind fun t250 => (if t250 = true then ((laws_eqIntSS.f k l0_1 l1_1).bind fun t251 => (if t251 = true then (some true) else (some false))) else (some false))) = some r := h
 clear h
 replace H := Option.bind_eq_some_iff.mp H
 obtain ⟨t250, A30, H⟩ := H
 replace H : (if t250 = true then ((laws_eqIntSS.f k l0_1 l1_1).bind fun t251 => (if t251 = true then (some true) else (some false))) else (some false)) = some r := H
 have A3 := Aside0.mk A30
 clear A30
 by_cases c4 : t250 = true
 ·subst c4
  have H1 : ((laws_eqIntSS.f k l0_1 l1_1).bind fun t251 => (if t251 = true then (some true) else (some false))) = some r := by rw [if_pos rfl] at H; exact H
  clear H
  have H := H1
  clear H1
  replace H := Option.bind_eq_some_iff.mp H
  obtain ⟨t251, A50, H⟩ := H
  replace H : (if t251 = true then (some true) else (some false)) = some r := H
  have A5 := Aside0.mk A50
  clear A50
  by_cases c6 : t251 = true
  ·subst c6
   have H1 : (some true) = some r := by rw [if_pos rfl] at H; exact H
   clear H
   have H := H1
   clear H1
   obtain rfl := Option.some.inj H
   go_enter Try.func39, Try.ntmps39
   go_wp2_with (first | ((with_reducible refine gate_dst (N := 2) rfl ?_); refine zX (N := 2) (cs := #[.slice A0_0 l0_0.length c0_0, .slice A0_1 l0_1.length c0_1]) (t := 40) ?_; intro gb248 hg w7 hbox hb; have n0_ := Aside0.mk (below_step (by repeat (first | (with_reducible first | exact HB.out | apply below_alloc | apply pw_below_drewN | apply below_drew1) | exact HB.out)) hb); have n1_ := Aside0.mk (hbox); have n2_ := Aside0.mk ((by rw [hg]; exact (below_size (by repeat (first | (with_reducible first | exact HB.out | apply below_alloc | apply pw_below_drewN | apply below_drew1) | exact HB.out))) : w.heap.size ≤ gb248)); have n3_ := Aside0.mk ((by rw [hg]; exact (below_size (by repeat (first | (with_reducible first | exact HB.out | apply below_alloc | apply pw_below_drewN | apply below_drew1) | exact HB.out))) : w.heap.size ≤ gb248)); clear HB; have HB := n0_; have BK248 := n1_; have GW248 := n2_; have GE248 := n3_; clear n0_ n1_ n2_ n3_; clear hb hbox hg) | ((with_reducible refine gate_dst (N := 3) rfl ?_); refine zX (N := 3) (cs := #[.slice A1_0 l1_0.length c1_0, .slice A1_1 l1_1.length c1_1]) (t := 40) ?_; intro gb249 hg w8 hbox hb; have n0_ := Aside0.mk (blk_below (g := gb248) (o := .cells #[.slice A0_0 l0_0.length c0_0, .slice A0_1 l0_1.length c0_1] 40 (0, 0)) (by (with_reducible repeat (first | refine blk_drewN ?_ _ | refine blk_drew ?_ | refine blk_alloc ?_ _)); exact BK248.out) hb); have n1_ := Aside0.mk (below_step (by repeat (first | (with_reducible first | exact HB.out | apply below_alloc | apply pw_below_drewN | apply below_drew1 | refine below_set ?_ GE248.out) | exact HB.out)) hb); have n2_ := Aside0.mk (hbox); have n3_ := Aside0.mk ((by rw [hg]; exact (below_size (by repeat (first | (with_reducible first | exact HB.out | apply below_alloc | apply pw_below_drewN | apply below_drew1 | refine below_set ?_ GE248.out) | exact HB.out))) : w.heap.size ≤ gb249)); have n4_ := Aside0.mk ((by rw [hg]; exact (below_size (by repeat (first | (with_reducible first | exact HB.out | apply below_alloc | apply pw_below_drewN | apply below_drew1 | refine below_set ?_ GE248.out) | exact HB.out))) : w.heap.size ≤ gb249)); have n5_ := Aside0.mk ((by rw [hg]; exact Nat.ne_of_lt (blk_lt (g := gb248) (o := .cells #[.slice A0_0 l0_0.length c0_0, .slice A0_1 l0_1.length c0_1] 40 (0, 0)) (by (with_reducible repeat (first | refine blk_drewN ?_ _ | refine blk_drew ?_ | refine blk_alloc ?_ _)); exact BK248.out)) : gb248 ≠ gb249)); have n6_ := Aside0.mk ((by rw [hg]; exact Nat.ne_of_gt (blk_lt (g := gb248) (o := .cells #[.slice A0_0 l0_0.length c0_0, .slice A0_1 l0_1.length c0_1] 40 (0, 0)) (by (with_reducible repeat (first | refine blk_drewN ?_ _ | refine blk_drew ?_ | refine blk_alloc ?_ _)); exact BK248.out)) : gb249 ≠ gb248)); clear BK248; clear HB; have BK248 := n0_; have HB := n1_; have BK249 := n2_; have GW249 := n3_; have GE249 := n4_; have NB248_249 := n5_; have NB249_248 := n6_; clear n0_ n1_ n2_ n3_ n4_ n5_ n6_; clear hb hbox hg; have hnb9 := NB248_249.out; have hnc9 := NB249_248.out; have hcz10_0 : w8.cell? ⟨gb248, 0, none⟩ = some (.slice A0_0 l0_0.length c0_0) := (blk_cell BK248.out 0).trans rfl; have hcz10_1 : w8.cell? ⟨gb248, 1, none⟩ = some (.slice A0_1 l0_1.length c0_1) := (blk_cell BK248.out 1).trans rfl; have hfz10_0 := blk_frozen BK248.out 0; have hfz10_1 := blk_frozen BK248.out 1; have hcz11_0 : w8.cell? ⟨gb249, 0, none⟩ = some (.slice A1_0 l1_0.length c1_0) := (blk_cell BK249.out 0).trans rfl; have hcz11_1 : w8.cell? ⟨gb249, 1, none⟩ = some (.slice A1_1 l1_1.length c1_1) := (blk_cell BK249.out 1).trans rfl; have hfz11_0 := blk_frozen BK249.out 0; have hfz11_1 := blk_frozen BK249.out 1) | ((with_reducible refine gate_callee (f := 15) rfl ?_); refine zG (some 9) Try.func15 #[.slice A0_0 l0_0.length c0_0, .slice A1_0 l1_0.length c1_0] ?_; (with_reducible refine (laws_eqIntS.calls k _ _ l0_0 _ _ l1_0 true _ ?side1 ?side2 ?side3 ?side4 A3.out).mono ?_); (case side1 => repeat (first | exact (Kd.C_below HR0_0.out HB.out) | (with_reducible refine Kd.C_alloc ?_ _) | (with_reducible refine Kd.C_drewN ?_ _) | (with_reducible refine Kd.C_drew ?_))); (case side2 => exact HC0_0.out); (case side3 => repeat (first | exact (Kd.C_below HR1_0.out HB.out) | (with_reducible refine Kd.C_alloc ?_ _) | (with_reducible refine Kd.C_drewN ?_ _) | (with_reducible refine Kd.C_drew ?_))); (case side4 => exact HC1_0.out); rintro e w' ⟨rfl, ⟨nd, rfl⟩⟩; refine ⟨_, rfl, ?_⟩) | ((with_reducible refine gate_callee (f := 22) rfl ?_); refine zG (some 15) Try.func22 #[.slice A0_1 l0_1.length c0_1, .slice A1_1 l1_1.length c1_1] ?_; (with_reducible refine (laws_eqIntSS.calls k _ _ l0_1 _ _ l1_1 true _ ?side1 ?side2 ?side3 ?side4 A5.out).mono ?_); (case side1 => repeat (first | exact (Kd.C_below HR0_1.out (by repeat (first | (with_reducible first | exact HB.out | apply below_alloc | apply pw_below_drewN | apply below_drew1 | refine below_set ?_ GE248.out | refine below_set ?_ GE249.out) | exact HB.out))) | (with_reducible refine Kd.C_alloc ?_ _) | (with_reducible refine Kd.C_drewN ?_ _) | (with_reducible refine Kd.C_drew ?_))); (case side2 => exact HC0_1.out); (case side3 => repeat (first | exact (Kd.C_below HR1_1.out (by repeat (first | (with_reducible first | exact HB.out | apply below_alloc | apply pw_below_drewN | apply below_drew1 | refine below_set ?_ GE248.out | refine below_set ?_ GE249.out) | exact HB.out))) | (with_reducible refine Kd.C_alloc ?_ _) | (with_reducible refine Kd.C_drewN ?_ _) | (with_reducible refine Kd.C_drew ?_))); (case side4 => exact HC1_1.out); rintro e w' ⟨rfl, ⟨nd, rfl⟩⟩; refine ⟨_, rfl, ?_⟩))
   go_ret
   exact ⟨by first | rfl | (simp [errW_none, errW_some] <;> rfl) | (simp [*, errW_none, errW_some] <;> rfl), by repeat (first | (with_reducible first | exact HB.out | apply below_alloc | apply pw_below_drewN | apply below_drew1 | refine below_set ?_ GE248.out | refine below_set ?_ GE249.out) | exact HB.out)⟩
  ·replace c6 := Bool.eq_false_iff.mpr c6
   subst c6
   have H1 : (some false) = some r := by rw [if_neg (show ¬ (false = true) by decide)] at H; exact H
   clear H
   have H := H1
   clear H1
   obtain rfl := Option.some.inj H
   go_enter Try.func39, Try.ntmps39
   go_wp2_with (first | ((with_reducible refine gate_dst (N := 2) rfl ?_); refine zX (N := 2) (cs := #[.slice A0_0 l0_0.length c0_0, .slice A0_1 l0_1.length c0_1]) (t := 40) ?_; intro gb248 hg w12 hbox hb; have n0_ := Aside0.mk (below_step (by repeat (first | (with_reducible first | exact HB.out | apply below_alloc | apply pw_below_drewN | apply below_drew1) | exact HB.out)) hb); have n1_ := Aside0.mk (hbox); have n2_ := Aside0.mk ((by rw [hg]; exact (below_size (by repeat (first | (with_reducible first | exact HB.out | apply below_alloc | apply pw_below_drewN | apply below_drew1) | exact HB.out))) : w.heap.size ≤ gb248)); have n3_ := Aside0.mk ((by rw [hg]; exact (below_size (by repeat (first | (with_reducible first | exact HB.out | apply below_alloc | apply pw_below_drewN | apply below_drew1) | exact HB.out))) : w.heap.size ≤ gb248)); clear HB; have HB := n0_; have BK248 := n1_; have GW248 := n2_; have GE248 := n3_; clear n0_ n1_ n2_ n3_; clear hb hbox hg) | ((with_reducible refine gate_dst (N := 3) rfl ?_); refine zX (N := 3) (cs := #[.slice A1_0 l1_0.length c1_0, .slice A1_1 l1_1.length c1_1]) (t := 40) ?_; intro gb249 hg w13 hbox hb; have n0_ := Aside0.mk (blk_below (g := gb248) (o := .cells #[.slice A0_0 l0_0.length c0_0, .slice A0_1 l0_1.length c0_1] 40 (0, 0)) (by (with_reducible repeat (first | refine blk_drewN ?_ _ | refine blk_drew ?_ | refine blk_alloc ?_ _)); exact BK248.out) hb); have n1_ := Aside0.mk (below_step (by repeat (first | (with_reducible first | exact HB.out | apply below_alloc | apply pw_below_drewN | apply below_drew1 | refine below_set ?_ GE248.out) | exact HB.out)) hb); have n2_ := Aside0.mk (hbox); have n3_ := Aside0.mk ((by rw [hg]; exact (below_size (by repeat (first | (with_reducible first | exact HB.out | apply below_alloc | apply pw_below_drewN | apply below_drew1 | refine below_set ?_ GE248.out) | exact HB.out))) : w.heap.size ≤ gb249)); have n4_ := Aside0.mk ((by rw [hg]; exact (below_size (by repeat (first | (with_reducible first | exact HB.out | apply below_alloc | apply pw_below_drewN | apply below_drew1 | refine below_set ?_ GE248.out) | exact HB.out))) : w.heap.size ≤ gb249)); have n5_ := Aside0.mk ((by rw [hg]; exact Nat.ne_of_lt (blk_lt (g := gb248) (o := .cells #[.slice A0_0 l0_0.length c0_0, .slice A0_1 l0_1.length c0_1] 40 (0, 0)) (by (with_reducible repeat (first | refine blk_drewN ?_ _ | refine blk_drew ?_ | refine blk_alloc ?_ _)); exact BK248.out)) : gb248 ≠ gb249)); have n6_ := Aside0.mk ((by rw [hg]; exact Nat.ne_of_gt (blk_lt (g := gb248) (o := .cells #[.slice A0_0 l0_0.length c0_0, .slice A0_1 l0_1.length c0_1] 40 (0, 0)) (by (with_reducible repeat (first | refine blk_drewN ?_ _ | refine blk_drew ?_ | refine blk_alloc ?_ _)); exact BK248.out)) : gb249 ≠ gb248)); clear BK248; clear HB; have BK248 := n0_; have HB := n1_; have BK249 := n2_; have GW249 := n3_; have GE249 := n4_; have NB248_249 := n5_; have NB249_248 := n6_; clear n0_ n1_ n2_ n3_ n4_ n5_ n6_; clear hb hbox hg; have hnb14 := NB248_249.out; have hnc14 := NB249_248.out; have hcz15_0 : w13.cell? ⟨gb248, 0, none⟩ = some (.slice A0_0 l0_0.length c0_0) := (blk_cell BK248.out 0).trans rfl; have hcz15_1 : w13.cell? ⟨gb248, 1, none⟩ = some (.slice A0_1 l0_1.length c0_1) := (blk_cell BK248.out 1).trans rfl; have hfz15_0 := blk_frozen BK248.out 0; have hfz15_1 := blk_frozen BK248.out 1; have hcz16_0 : w13.cell? ⟨gb249, 0, none⟩ = some (.slice A1_0 l1_0.length c1_0) := (blk_cell BK249.out 0).trans rfl; have hcz16_1 : w13.cell? ⟨gb249, 1, none⟩ = some (.slice A1_1 l1_1.length c1_1) := (blk_cell BK249.out 1).trans rfl; have hfz16_0 := blk_frozen BK249.out 0; have hfz16_1 := blk_frozen BK249.out 1) | ((with_reducible refine gate_callee (f := 15) rfl ?_); refine zG (some 9) Try.func15 #[.slice A0_0 l0_0.length c0_0, .slice A1_0 l1_0.length c1_0] ?_; (with_reducible refine (laws_eqIntS.calls k _ _ l0_0 _ _ l1_0 true _ ?side1 ?side2 ?side3 ?side4 A3.out).mono ?_); (case side1 => repeat (first | exact (Kd.C_below HR0_0.out HB.out) | (with_reducible refine Kd.C_alloc ?_ _) | (with_reducible refine Kd.C_drewN ?_ _) | (with_reducible refine Kd.C_drew ?_))); (case side2 => exact HC0_0.out); (case side3 => repeat (first | exact (Kd.C_below HR1_0.out HB.out) | (with_reducible refine Kd.C_alloc ?_ _) | (with_reducible refine Kd.C_drewN ?_ _) | (with_reducible refine Kd.C_drew ?_))); (case side4 => exact HC1_0.out); rintro e w' ⟨rfl, ⟨nd, rfl⟩⟩; refine ⟨_, rfl, ?_⟩) | ((with_reducible refine gate_callee (f := 22) rfl ?_); refine zG (some 15) Try.func22 #[.slice A0_1 l0_1.length c0_1, .slice A1_1 l1_1.length c1_1] ?_; (with_reducible refine (laws_eqIntSS.calls k _ _ l0_1 _ _ l1_1 false _ ?side1 ?side2 ?side3 ?side4 A5.out).mono ?_); (case side1 => repeat (first | exact (Kd.C_below HR0_1.out (by repeat (first | (with_reducible first | exact HB.out | apply below_alloc | apply pw_below_drewN | apply below_drew1 | refine below_set ?_ GE248.out | refine below_set ?_ GE249.out) | exact HB.out))) | (with_reducible refine Kd.C_alloc ?_ _) | (with_reducible refine Kd.C_drewN ?_ _) | (with_reducible refine Kd.C_drew ?_))); (case side2 => exact HC0_1.out); (case side3 => repeat (first | exact (Kd.C_below HR1_1.out (by repeat (first | (with_reducible first | exact HB.out | apply below_alloc | apply pw_below_drewN | apply below_drew1 | refine below_set ?_ GE248.out | refine below_set ?_ GE249.out) | exact HB.out))) | (with_reducible refine Kd.C_alloc ?_ _) | (with_reducible refine Kd.C_drewN ?_ _) | (with_reducible refine Kd.C_drew ?_))); (case side4 => exact HC1_1.out); rintro e w' ⟨rfl, ⟨nd, rfl⟩⟩; refine ⟨_, rfl, ?_⟩))
   go_ret
   exact ⟨by first | rfl | (simp [errW_none, errW_some] <;> rfl) | (simp [*, errW_none, errW_some] <;> rfl), by repeat (first | (with_reducible first | exact HB.out | apply below_alloc | apply pw_below_drewN | apply below_drew1 | refine below_set ?_ GE248.out | refine below_set ?_ GE249.out) | exact HB.out)⟩
 ·replace c4 := Bool.eq_false_iff.mpr c4
  subst c4
  have H1 : (some false) = some r := by rw [if_neg (show ¬ (false = true) by decide)] at H; exact H
  clear H
  have H := H1
  clear H1
  obtain rfl := Option.some.inj H
  go_enter Try.func39, Try.ntmps39
  go_wp2_with (first | ((with_reducible refine gate_dst (N := 2) rfl ?_); refine zX (N := 2) (cs := #[.slice A0_0 l0_0.length c0_0, .slice A0_1 l0_1.length c0_1]) (t := 40) ?_; intro gb248 hg w17 hbox hb; have n0_ := Aside0.mk (below_step (by repeat (first | (with_reducible first | exact HB.out | apply below_alloc | apply pw_below_drewN | apply below_drew1) | exact HB.out)) hb); have n1_ := Aside0.mk (hbox); have n2_ := Aside0.mk ((by rw [hg]; exact (below_size (by repeat (first | (with_reducible first | exact HB.out | apply below_alloc | apply pw_below_drewN | apply below_drew1) | exact HB.out))) : w.heap.size ≤ gb248)); have n3_ := Aside0.mk ((by rw [hg]; exact (below_size (by repeat (first | (with_reducible first | exact HB.out | apply below_alloc | apply pw_below_drewN | apply below_drew1) | exact HB.out))) : w.heap.size ≤ gb248)); clear HB; have HB := n0_; have BK248 := n1_; have GW248 := n2_; have GE248 := n3_; clear n0_ n1_ n2_ n3_; clear hb hbox hg) | ((with_reducible refine gate_dst (N := 3) rfl ?_); refine zX (N := 3) (cs := #[.slice A1_0 l1_0.length c1_0, .slice A1_1 l1_1.length c1_1]) (t := 40) ?_; intro gb249 hg w18 hbox hb; have n0_ := Aside0.mk (blk_below (g := gb248) (o := .cells #[.slice A0_0 l0_0.length c0_0, .slice A0_1 l0_1.length c0_1] 40 (0, 0)) (by (with_reducible repeat (first | refine blk_drewN ?_ _ | refine blk_drew ?_ | refine blk_alloc ?_ _)); exact BK248.out) hb); have n1_ := Aside0.mk (below_step (by repeat (first | (with_reducible first | exact HB.out | apply below_alloc | apply pw_below_drewN | apply below_drew1 | refine below_set ?_ GE248.out) | exact HB.out)) hb); have n2_ := Aside0.mk (hbox); have n3_ := Aside0.mk ((by rw [hg]; exact (below_size (by repeat (first | (with_reducible first | exact HB.out | apply below_alloc | apply pw_below_drewN | apply below_drew1 | refine below_set ?_ GE248.out) | exact HB.out))) : w.heap.size ≤ gb249)); have n4_ := Aside0.mk ((by rw [hg]; exact (below_size (by repeat (first | (with_reducible first | exact HB.out | apply below_alloc | apply pw_below_drewN | apply below_drew1 | refine below_set ?_ GE248.out) | exact HB.out))) : w.heap.size ≤ gb249)); have n5_ := Aside0.mk ((by rw [hg]; exact Nat.ne_of_lt (blk_lt (g := gb248) (o := .cells #[.slice A0_0 l0_0.length c0_0, .slice A0_1 l0_1.length c0_1] 40 (0, 0)) (by (with_reducible repeat (first | refine blk_drewN ?_ _ | refine blk_drew ?_ | refine blk_alloc ?_ _)); exact BK248.out)) : gb248 ≠ gb249)); have n6_ := Aside0.mk ((by rw [hg]; exact Nat.ne_of_gt (blk_lt (g := gb248) (o := .cells #[.slice A0_0 l0_0.length c0_0, .slice A0_1 l0_1.length c0_1] 40 (0, 0)) (by (with_reducible repeat (first | refine blk_drewN ?_ _ | refine blk_drew ?_ | refine blk_alloc ?_ _)); exact BK248.out)) : gb249 ≠ gb248)); clear BK248; clear HB; have BK248 := n0_; have HB := n1_; have BK249 := n2_; have GW249 := n3_; have GE249 := n4_; have NB248_249 := n5_; have NB249_248 := n6_; clear n0_ n1_ n2_ n3_ n4_ n5_ n6_; clear hb hbox hg; have hnb19 := NB248_249.out; have hnc19 := NB249_248.out; have hcz20_0 : w18.cell? ⟨gb248, 0, none⟩ = some (.slice A0_0 l0_0.length c0_0) := (blk_cell BK248.out 0).trans rfl; have hcz20_1 : w18.cell? ⟨gb248, 1, none⟩ = some (.slice A0_1 l0_1.length c0_1) := (blk_cell BK248.out 1).trans rfl; have hfz20_0 := blk_frozen BK248.out 0; have hfz20_1 := blk_frozen BK248.out 1; have hcz21_0 : w18.cell? ⟨gb249, 0, none⟩ = some (.slice A1_0 l1_0.length c1_0) := (blk_cell BK249.out 0).trans rfl; have hcz21_1 : w18.cell? ⟨gb249, 1, none⟩ = some (.slice A1_1 l1_1.length c1_1) := (blk_cell BK249.out 1).trans rfl; have hfz21_0 := blk_frozen BK249.out 0; have hfz21_1 := blk_frozen BK249.out 1) | ((with_reducible refine gate_callee (f := 15) rfl ?_); refine zG (some 9) Try.func15 #[.slice A0_0 l0_0.length c0_0, .slice A1_0 l1_0.length c1_0] ?_; (with_reducible refine (laws_eqIntS.calls k _ _ l0_0 _ _ l1_0 false _ ?side1 ?side2 ?side3 ?side4 A3.out).mono ?_); (case side1 => repeat (first | exact (Kd.C_below HR0_0.out HB.out) | (with_reducible refine Kd.C_alloc ?_ _) | (with_reducible refine Kd.C_drewN ?_ _) | (with_reducible refine Kd.C_drew ?_))); (case side2 => exact HC0_0.out); (case side3 => repeat (first | exact (Kd.C_below HR1_0.out HB.out) | (with_reducible refine Kd.C_alloc ?_ _) | (with_reducible refine Kd.C_drewN ?_ _) | (with_reducible refine Kd.C_drew ?_))); (case side4 => exact HC1_0.out); rintro e w' ⟨rfl, ⟨nd, rfl⟩⟩; refine ⟨_, rfl, ?_⟩))
  go_ret
  exact ⟨by first | rfl | (simp [errW_none, errW_some] <;> rfl) | (simp [*, errW_none, errW_some] <;> rfl), by repeat (first | (with_reducible first | exact HB.out | apply below_alloc | apply pw_below_drewN | apply below_drew1 | refine below_set ?_ GE248.out | refine below_set ?_ GE249.out) | exact HB.out)⟩

-- NOT PRINTED: function 40 (laws_markTableau)

/-! ### laws_heldIntSS: function 32 -/
def laws_heldIntSS.l0 : Nat → List (List Int) → Int → Int → Option (Int)
 | 0, _, _, _ => none
 | k + 1, x0, x1, x5 => if x5 < (x0.length : Int) then (if 0 ≤ x5 then ((laws_heldIntS.f k (rd_L1 x0 x5) x1).bind fun t256 => (if t256 < 0 then (some (-1)) else (laws_heldIntSS.l0 k x0 t256 (wrap64 (x5 + 1))))) else (none)) else (some x1)
def laws_heldIntSS.f (k : Nat) (l0 : List (List Int)) (a1 : Int) : Option (Int) := laws_heldIntSS.l0 k l0 a1 0
theorem laws_heldIntSS.mono_l : ∀ k, (∀ y0 y1 y2, LeO (laws_heldIntSS.l0 k y0 y1 y2) (laws_heldIntSS.l0 (k + 1) y0 y1 y2))
 | 0 => fun _ _ _ r h => by simp [laws_heldIntSS.l0] at h
 | k + 1 => by
  have ih0 := laws_heldIntSS.mono_l k
  ·intro y0 y1 y2
   unfold laws_heldIntSS.l0
   repeat' first
   | (with_reducible exact ih0 _ _ _)
   | (with_reducible exact laws_heldIntS.mono _ _ _)
   | (with_reducible exact LeO.refl _)
   | (with_reducible exact LeO.none _)
   | (with_reducible refine LeO.ite ?_ ?_)
   | (with_reducible refine LeO.bind ?_ (fun _ => ?_))
   | exact ih0 _ _ _
   | exact laws_heldIntS.mono _ _ _
   | exact LeO.none _
   | refine LeO.ite ?_ ?_
   | refine LeO.bind ?_ (fun _ => ?_)
theorem laws_heldIntSS.mono : ∀ a0 a1 k, LeO (laws_heldIntSS.f k a0 a1) (laws_heldIntSS.f (k + 1) a0 a1) := by
 intro a0 a1 k
 have ih0 := laws_heldIntSS.mono_l k
 unfold laws_heldIntSS.f
 repeat' first
   | (with_reducible exact ih0 _ _ _)
   | (with_reducible exact laws_heldIntS.mono _ _ _)
   | (with_reducible exact LeO.refl _)
   | (with_reducible exact LeO.none _)
   | (with_reducible refine LeO.ite ?_ ?_)
   | (with_reducible refine LeO.bind ?_ (fun _ => ?_))
   | exact ih0 _ _ _
   | exact laws_heldIntS.mono _ _ _
   | exact LeO.none _
   | refine LeO.ite ?_ ?_
   | refine LeO.bind ?_ (fun _ => ?_)
set_option maxHeartbeats 8000000 in
set_option maxRecDepth 100000 in
theorem laws_heldIntSS.calls (k : Nat) (A0 : Option Addr) (c0 : Nat) (l0 : List (List Int)) (a1 : Int) (r : Int) (w : World) (hr0 : Kd.C (Kd.slice 3 (Kd.int .i64)) w A0 l0.length l0) (hc0 : l0.length ≤ c0) (h : laws_heldIntSS.f k l0 a1 = some r) :
  Calls Try.prog 32 #[.slice A0 l0.length c0, .int .i64 a1] w fun e w' => e = .returned (.int .i64 r) ∧ Drawn0 w w' := by
 have HR0 := Aside0.mk hr0
 have HC0 := Aside0.mk hc0
 clear hr0 hc0
 have H : (laws_heldIntSS.l0 k l0 a1 0) = some r := h
 clear h
 have H' := Aside0.mk H
 clear H
 go_enter Try.func32, Try.ntmps32
 go_wp2
 go_loopg [1, 5] k (fun kq v1 v5 w' => ∃ (x1_1 : Int) (x5_1 : Int), v1 = .int .i64 x1_1 ∧ v5 = .int .i64 x5_1 ∧ Aside0 (laws_heldIntSS.l0 kq l0 x1_1 x5_1 = some r) ∧ Aside0 (kq ≤ k) ∧ Drawn0 w w')
 case atStart => exact ⟨(a1), (0), (by first | rfl | (simp; done) | (simp [*]; done)), (by first | rfl | (simp; done) | (simp [*]; done)), H', ⟨Nat.le_refl _⟩, by repeat (first | exact Drawn0.refl _ | apply Drawn0.step)⟩
 case round =>
  clear H'
  try clear p2
  obtain ⟨x1_1, x5_1, rfl, rfl, HA, HK1, ⟨m1, rfl⟩⟩ := hrel
  cases gk with
  | zero => exact absurd HA.out (by simp [laws_heldIntSS.l0])
  | succ k1 =>
   have H := HA.out
   clear HA
   simp only [laws_heldIntSS.l0] at H
   by_cases c3 : x5_1 < (l0.length : Int)
   ·rw [if_pos c3] at H
    have c3b0 : decide (x5_1 < (l0.length : Int)) = true := decide_eq_true c3
    clear c3
    by_cases c4 : 0 ≤ x5_1
    ·rw [if_pos c4] at H
     have c4b0 : decide (0 ≤ x5_1) = true := decide_eq_true c4
     clear c4
     replace H := Option.bind_eq_some_iff.mp H
     obtain ⟨t256, A50, H⟩ := H
     replace H : (if t256 < 0 then (some (-1)) else (laws_heldIntSS.l0 k1 l0 t256 (wrap64 (x5_1 + 1)))) = some r := H
     have A5 := Aside0.mk A50
     clear A50
     by_cases c6 : t256 < 0
     ·rw [if_pos c6] at H
      have c6b0 : decide (t256 < 0) = true := decide_eq_true c6
      clear c6
      obtain rfl := Option.some.inj H
      have p255 : 0 ≤ (x5_1 : Int) := of_decide_eq_true (by first | (with_reducible assumption) | assumption)
      have q255 : x5_1 < (l0.length : Int) := of_decide_eq_true (by first | (with_reducible assumption) | assumption)
      obtain ⟨ad255, A255_0, c255_0, e255, hx255_0, hl255_0, hi255_0⟩ := at_L1 HR0.out x5_1 p255 q255
      cases e255
      have HR255_0 := Aside0.mk hi255_0
      have HC255_0 := Aside0.mk hl255_0
      clear hi255_0 hl255_0
      replace p255 := eq_true p255
      replace q255 := eq_true q255
      go_wp2_with (first | ((with_reducible refine gate_callee (f := 17) rfl ?_); refine zG (some 17) Try.func17 #[.slice A255_0 (rd_L1 l0 x5_1).length c255_0, .int .i64 x1_1] ?_; (with_reducible refine (laws_heldIntS.calls k1 _ _ (rd_L1 l0 x5_1) x1_1 t256 _ ?side1 ?side2 A5.out).mono ?_); (case side1 => repeat (first | exact HR255_0.out | (with_reducible refine Kd.C_alloc ?_ _) | (with_reducible refine Kd.C_drewN ?_ _) | (with_reducible refine Kd.C_drew ?_))); (case side2 => exact HC255_0.out); rintro e w' ⟨rfl, ⟨nd, rfl⟩⟩; refine ⟨_, rfl, ?_⟩))
      go_ret
      exact ⟨by first | rfl | (simp; done) | (simp [*]; done), by repeat (first | exact Drawn0.refl _ | apply Drawn0.step)⟩
     ·rw [if_neg c6] at H
      have c6b0 : decide (t256 < 0) = false := decide_eq_false c6
      clear c6
      have H' := Aside0.mk H
      clear H
      have p255 : 0 ≤ (x5_1 : Int) := of_decide_eq_true (by first | (with_reducible assumption) | assumption)
      have q255 : x5_1 < (l0.length : Int) := of_decide_eq_true (by first | (with_reducible assumption) | assumption)
      obtain ⟨ad255, A255_0, c255_0, e255, hx255_0, hl255_0, hi255_0⟩ := at_L1 HR0.out x5_1 p255 q255
      cases e255
      have HR255_0 := Aside0.mk hi255_0
      have HC255_0 := Aside0.mk hl255_0
      clear hi255_0 hl255_0
      replace p255 := eq_true p255
      replace q255 := eq_true q255
      go_wp2_with (first | ((with_reducible refine gate_callee (f := 17) rfl ?_); refine zG (some 17) Try.func17 #[.slice A255_0 (rd_L1 l0 x5_1).length c255_0, .int .i64 x1_1] ?_; (with_reducible refine (laws_heldIntS.calls k1 _ _ (rd_L1 l0 x5_1) x1_1 t256 _ ?side1 ?side2 A5.out).mono ?_); (case side1 => repeat (first | exact HR255_0.out | (with_reducible refine Kd.C_alloc ?_ _) | (with_reducible refine Kd.C_drewN ?_ _) | (with_reducible refine Kd.C_drew ?_))); (case side2 => exact HC255_0.out); rintro e w' ⟨rfl, ⟨nd, rfl⟩⟩; refine ⟨_, rfl, ?_⟩))
      go_roundg k1
      case measure => have := HK1.out; omega
      case rel => exact ⟨(t256), (wrap64 (x5_1 + 1)), (by first | rfl | (simp; done) | (simp [*]; done)), (by first | rfl | (simp; done) | (simp [*]; done)), H', ⟨by have := HK1.out; omega⟩, by repeat (first | exact Drawn0.refl _ | apply Drawn0.step)⟩
    ·rw [if_neg c4] at H
     exact absurd H (by simp)
   ·rw [if_neg c3] at H
    have c3b0 : decide (x5_1 < (l0.length : Int)) = false := decide_eq_false c3
    clear c3
    obtain rfl := Option.some.inj H
    go_wp2
    go_ret
    exact ⟨by first | rfl | (simp; done) | (simp [*]; done), by repeat (first | exact Drawn0.refl _ | apply Drawn0.step)⟩

end Go.Proofs.Ytekjnjejgefbhaa.F
