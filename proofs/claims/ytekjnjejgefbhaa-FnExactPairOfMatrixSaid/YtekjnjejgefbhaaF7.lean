/- For each Go function named below: the plain Lean function that it computes, and that its call returns just that; conditions: those that each theorem names. -/
import Derived.Test.YtekjnjejgefbhaaF0
import Derived.Test.YtekjnjejgefbhaaF3
import Derived.Test.YtekjnjejgefbhaaF4
import Derived.Test.YtekjnjejgefbhaaF5
import Derived.Test.YtekjnjejgefbhaaF6
namespace Go.Proofs.Ytekjnjejgefbhaa.F
open Go.RowKit Go.Proofs.YtekjnjejgefbhaaW.PrintWords Go.Proofs.YtekjnjejgefbhaaW.PrintLast Go.Proofs.YtekjnjejgefbhaaW.PrintMore
attribute [local go_sem] max2_int min2_int max_two min_two max_three min_three max_four min_four   -- for this text's walks alone
set_option linter.unusedVariables false
set_option linter.unusedSimpArgs false
abbrev zB7_0 : Array Bool := #[false, false, false, false, false, false, false, false, false, false, false, false, false, false]
abbrev zB7_1 : Array Bool := #[true, false, false, false, false, false, false, false, false, false, false, false, false, false]
abbrev zB7_2 : Array Bool := #[true, false, true, false, false, false, false, false, false, false, false, false, false, false]
abbrev zB7_3 : Array Bool := #[true, false, true, true, false, false, false, false, false, false, false, false, false, false]
abbrev zB7_4 : Array Bool := #[true, false, true, true, false, true, false, false, false, false, false, false, false, false]
abbrev zB7_5 : Array Bool := #[true, false, true, true, false, true, false, false, true, false, false, false, false, false]
abbrev zB7_6 : Array Bool := #[true, false, true, true, false, true, false, false, true, true, false, false, false, false]
abbrev zB7_7 : Array Bool := #[true, true, true, true, false, true, false, false, true, true, false, false, false, false]
abbrev zB7_8 : Array Bool := #[true, true, true, true, true, true, false, false, true, true, false, false, false, false]
abbrev zB7_9 : Array Bool := #[true, true, true, true, true, true, true, false, true, true, false, false, false, false]
abbrev zB7_10 : Array Bool := #[true, true, true, true, true, true, true, true, true, true, false, false, false, false]
abbrev zB7_11 : Array Bool := #[true, true, true, true, true, true, true, true, true, true, true, false, false, false]
abbrev zB7_12 : Array Bool := #[true, true, true, true, true, true, true, true, true, true, true, true, false, false]
abbrev zB7_13 : Array Bool := #[true, true, true, true, true, true, true, true, true, true, true, true, true, false]
abbrev zB7_14 : Array Bool := #[true, true, true, true, true, true, true, true, true, true, true, true, true, true]

/-! ### spec_l9Both: function 60 -/
theorem hev_pos {α : Type} {r : α} {c : Prop} [Decidable c] {A B : Nat → Option α} (h : c) (hA : Ev A r) : Ev (fun k => if c then A k else B k) r := by
  simp only [if_pos h]; exact hA
theorem hev_neg {α : Type} {r : α} {c : Prop} [Decidable c] {A B : Nat → Option α} (h : ¬ c) (hB : Ev B r) : Ev (fun k => if c then A k else B k) r := by
  simp only [if_neg h]; exact hB
theorem hev_val {α : Type} {r a : α} (h : a = r) : Ev (fun _ => some a) r := by subst h; exact ⟨0, fun _ _ => rfl⟩
theorem hwrap (n : Nat) (h : n < 9223372036854775807) : wrap64 ((n : Int) + 1) = ((n + 1 : Nat) : Int) := by unfold wrap64; omega
theorem l5Copy_ev (p : List (List Int)) (hp : p.length ≤ 1000) (hr : ∀ r ∈ p, r.length ≤ 1000) : Ev (fun k => spec_l5Copy.f k [] p) ([], p) := by
  have key : ∀ (d i : Nat), i + d = p.length → Ev (fun k => spec_l5Copy.l0 k (i : Int) [] p [] (p.take i)) ([], p) := by
    intro d
    induction d with
    | zero =>
      intro i h
      refine Ev.step (fun k => by rw [spec_l5Copy.l0]) ?_
      refine hev_neg (by omega) (hev_val ?_)
      rw [List.take_of_length_le (by omega)]
    | succ d ih =>
      intro i h
      have hi : i < p.length := by omega
      have e : rd_L1 p (i : Int) = p[i] := by unfold rd_L1; rw [Int.toNat_natCast, List.getD_eq_getElem?_getD, List.getElem?_eq_getElem hi]; rfl
      have hl := hr _ (List.getElem_mem hi)
      refine Ev.step (fun k => by rw [spec_l5Copy.l0]) ?_
      refine hev_pos (by omega) ?_
      simp only [Option.bind_some]
      refine hev_pos (by omega) (hev_pos (by rw [e]; simp only [List.length_nil]; omega) (hev_pos (by rw [List.length_take]; omega) ?_))
      rw [hwrap i (by omega), e, List.nil_append, ← List.take_succ_eq_append_getElem hi]
      exact ih (i + 1) (by omega)
  unfold spec_l5Copy.f
  simp only [Option.bind_some]
  refine hev_pos (by simp) ?_
  simpa using key p.length 0 (by omega)
theorem l9_value (p : List (List Int)) (x : Int) : ∀ (d i : Nat) (rs : List (List Int)) (x : Int), i + d = rs.length → rs.length ≤ 1000 → (∀ r ∈ rs, r.length ≤ 1000) →
    Ev (fun k => spec_l9Insert.l0 k x (i : Int) [] rs) ([], rs.take i ++ insRows (rs.drop i) x, ((i + insAt (rs.drop i) x : Nat) : Int)) := by
  intro d
  induction d with
  | zero =>
    intro i rs x h hl hr
    refine Ev.step (fun k => by rw [spec_l9Insert.l0]) ?_
    refine hev_neg (by omega) (hev_pos (by omega) ?_)
    simp only [Option.bind_some]
    refine hev_val ?_
    rw [List.take_of_length_le (by omega), List.drop_of_length_le (by omega)]
    simp only [insRows, insAt, List.length_append, List.length_cons, List.length_nil]
    have : wrap64 (((rs.length + (0 + 1) : Nat) : Int) - 1) = ((i + 0 : Nat) : Int) := by unfold wrap64; omega
    rw [this]
  | succ d ih =>
    intro i rs x h hl hr
    have hi : i < rs.length := by omega
    have e : rd_L1 rs (i : Int) = rs[i] := by unfold rd_L1; rw [Int.toNat_natCast, List.getD_eq_getElem?_getD, List.getElem?_eq_getElem hi]; rfl
    have hrl := hr _ (List.getElem_mem hi)
    obtain ⟨row, hrow⟩ : ∃ row, row = rs[i] := ⟨_, rfl⟩
    rw [← hrow] at e hrl
    have hd : rs.drop i = row :: rs.drop (i + 1) := by rw [hrow]; exact List.drop_eq_getElem_cons hi
    refine Ev.step (fun k => by rw [spec_l9Insert.l0]) ?_
    refine hev_pos (by omega) ?_
    -- the scan: up to the place
    have scan : ∀ (m : Nat), m ≤ row.length → (∀ j, j < m → rd row (j : Int) ≤ x) → (∀ R, Ev (fun k => spec_l9Insert.l1 k x (i : Int) (m : Int) [] rs) R → Ev (fun k => spec_l9Insert.l1 k x (i : Int) 0 [] rs) R) := by
      intro m
      induction m with
      | zero => intro _ _ R h; simpa using h
      | succ m ihm =>
        intro hm hj R hR
        refine ihm (by omega) (fun j h => hj j (by omega)) R ?_
        refine Ev.step (fun k => by rw [spec_l9Insert.l1]) ?_
        rw [e]
        refine hev_pos (by omega) (hev_pos (by omega) (hev_pos (by omega) (hev_pos (by omega) (hev_pos (hj m (by omega)) ?_))))
        rw [hwrap m (by omega)]
        exact hR
    rcases idxFrom_range (fun n => decide (x < n)) row 0 with hb | hb
    · have hb' : bump row x = -1 := hb
      have hall : ∀ j, j < row.length → rd row (j : Int) ≤ x := by
        intro j hj
        have h0 := idxFrom_any (fun n => decide (x < n)) row 0
        rw [hb] at h0
        have h1 : row.any (fun n => decide (x < n)) = false := by rw [← h0]; decide
        have h2 := List.any_eq_false.1 h1 _ (List.getElem_mem hj)
        have h3 : rd row (j : Int) = row[j] := by unfold rd; rw [Int.toNat_natCast, List.getD_eq_getElem?_getD, List.getElem?_eq_getElem hj]; rfl
        rw [h3]; simpa using h2
      refine scan row.length (Nat.le_refl _) hall _ ?_
      refine Ev.step (fun k => by rw [spec_l9Insert.l1]) ?_
      rw [e]
      refine hev_pos (by omega) (hev_pos (by omega) (hev_neg (by omega) (hev_pos rfl (hev_pos (by omega) (hev_val ?_)))))
      rw [hd]
      simp only [insRows, insAt]
      rw [if_pos (by rw [hb']; decide), if_pos (by rw [hb']; decide), Int.toNat_natCast, List.set_eq_take_append_cons_drop, if_pos hi]
      rfl
    · obtain ⟨m, hm⟩ : ∃ m : Nat, bump row x = (m : Int) := ⟨(bump row x).toNat, by unfold bump; omega⟩
      have hml : m < row.length := by have : bump row x < ((0 + row.length : Nat) : Int) := hb.2; omega
      obtain ⟨hs, hx⟩ : (∀ j, j < m → rd row (j : Int) ≤ x) ∧ x < rd row (m : Int) := by
        have gen : ∀ (l : List Int) (k n : Nat), idxFrom (fun n => decide (x < n)) l k = ((k + n : Nat) : Int) → (∀ j, j < n → l.getD j 0 ≤ x) ∧ (n < l.length → x < l.getD n 0) := by
          intro l
          induction l with
          | nil => intro k n h; simp [idxFrom] at h; omega
          | cons a l ihl =>
            intro k n h
            by_cases ha : x < a
            · have : idxFrom (fun n => decide (x < n)) (a :: l) k = (k : Int) := by simp [idxFrom, ha]
              rw [this] at h
              obtain rfl : n = 0 := by omega
              exact ⟨fun j hj => absurd hj (Nat.not_lt_zero _), fun _ => by simpa using ha⟩
            · have h2 : idxFrom (fun n => decide (x < n)) (a :: l) k = idxFrom (fun n => decide (x < n)) l (k + 1) := by simp [idxFrom, ha]
              rw [h2] at h
              have h3 := idxFrom_range (fun n => decide (x < n)) l (k + 1)
              obtain ⟨n', rfl⟩ : ∃ n', n = n' + 1 := ⟨n - 1, by omega⟩
              obtain ⟨g1, g2⟩ := ihl (k + 1) n' (by rw [h]; congr 1; omega)
              refine ⟨fun j hj => ?_, fun hn => by simpa using g2 (by simpa using hn)⟩
              cases j with
              | zero => simp; omega
              | succ j => simpa using g1 j (by omega)
        have g := gen row 0 m (by have : idxFrom (fun n => decide (x < n)) row 0 = (m : Int) := hm; rw [this]; congr 1; omega)
        exact ⟨fun j hj => by have := g.1 j hj; unfold rd; rwa [Int.toNat_natCast], by have := g.2 hml; unfold rd; rwa [Int.toNat_natCast]⟩
      refine scan m (by omega) hs _ ?_
      refine Ev.step (fun k => by rw [spec_l9Insert.l1]) ?_
      rw [e]
      refine hev_pos (by omega) (hev_pos (by omega) (hev_pos (by omega) (hev_pos (by omega) (hev_neg (by omega) (hev_neg (by omega) ?_)))))
      rw [hwrap i (by omega), Int.toNat_natCast, Int.toNat_natCast]
      have hlen : (rs.set i (row.set m x)).length = rs.length := List.length_set
      have h9 := ih (i + 1) (rs.set i (row.set m x)) (rd row (m : Int)) (by rw [hlen]; omega) (by rw [hlen]; exact hl) (fun q hq => by
        rcases List.mem_or_eq_of_mem_set hq with hq | rfl
        · exact hr q hq
        · rw [List.length_set]; exact hrl)
      rw [set_take_succ rs i _ hi, set_drop_succ rs i _ hi] at h9
      rw [hd]
      simp only [insRows, insAt]
      rw [if_neg (by rw [hm]; omega), if_neg (by rw [hm]; omega), hm, Int.toNat_natCast]
      rw [List.append_assoc] at h9
      rw [show i + (insAt (rs.drop (i + 1)) (rd row (m : Int)) + 1) = i + 1 + insAt (rs.drop (i + 1)) (rd row (m : Int)) by omega]
      exact h9
theorem l9Insert_ev (p : List (List Int)) (x : Int) (hp : p.length ≤ 1000) (hr : ∀ r ∈ p, r.length ≤ 1000) : Ev (fun k => spec_l9Insert.f k [] p x) ([], insRows p x, ((insAt p x : Nat) : Int)) := by
  unfold spec_l9Insert.f
  refine Ev.bind (l5Copy_ev p hp hr) ?_
  have := l9_value p x p.length 0 p x (by omega) hp hr
  simpa using this
def l9Both10.T : Bool × List (List Nat × List Nat) := (true, [([], []), ([0], [0]), ([], []), ([], []), ([3], [3]), ([], []), ([4, 5], [4, 5]), ([6], [6]), ([], []), ([8], [8]), ([9], [9]), ([7, 10], [7, 10]), ([1, 2, 0, 1, 2, 3, 4, 5, 6, 7, 8, 9, 10, 11], [1, 2]), ([12, 11, 11, 0, 1, 2, 3, 4, 5, 6, 7, 8, 9, 10, 11], [11, 12])])
def l9Both10.B : List Nat := [0, 1, 0, 0, 8, 0, 56, 120, 0, 256, 768, 2040, 4095, 8191]
theorem l9Both10.tab : rtab .any (opsOf Try.f60 10) = l9Both10.T := by kernel_rfl
theorem l9Both10.bits : waitsOk l9Both10.T.2 l9Both10.B = true := by kernel_rfl
set_option maxHeartbeats 8000000 in
set_option maxRecDepth 100000 in
theorem l9Both_walk (w : World) (A0 : Option Addr) (c0 : Nat) (l0 : List Int) (hr0 : Kd.C (Kd.int .i64) w A0 l0.length l0) (hc0 : l0.length ≤ c0) (hl : l0.length ≤ 900) (hI : ∀ (p : List (List Int)) (x : Int) (A A' : Option Addr) (c c' : Nat) (W : World), p.length ≤ 1000 → (∀ r ∈ p, r.length ≤ 1000) → Kd.C (Kd.int .i64) W A 0 [] → Kd.C (Kd.slice 3 (Kd.int .i64)) W A' p.length p → p.length ≤ c' → Calls Try.prog 69 #[.agg #[.slice A 0 c, .slice A' p.length c'], .int .i64 x] W fun e W' => ∃ v0_ v1_ : Value, e = .returned (.tuple #[.agg #[v0_, v1_], .int .i64 (insAt p x : Nat)]) ∧ Kd.R (Kd.int .i64) 3 W' W.heap.size (fun _ => True) v0_ [] ∧ Kd.S (Kd.slice 3 (Kd.int .i64)) 22 W' W.heap.size (fun k_ => some k_ ≠ (v0_ : Value).ownBlock) v1_ (insRows p x) ∧ Below W.heap.size W W') :
    Calls Try.prog 60 #[.slice A0 l0.length c0] w fun e w' => ∃ (iv pv qv : Value) (okp okq : Nat → Prop), e = .returned (.tuple #[.agg #[iv, pv], .agg #[.slice none 0 0, qv]]) ∧ (∀ k, okp k → ¬ okq k) ∧ Kd.R (Kd.int .i64) 3 w' w.heap.size okp iv [] ∧ Kd.S (Kd.slice 3 (Kd.int .i64)) 22 w' w.heap.size (fun k => okp k ∧ some k ≠ iv.ownBlock) pv (bothAt l0 (fun k => ((k + 1 : Nat) : Int)) l0.length).1 ∧ Kd.S (Kd.slice 3 (Kd.int .i64)) 22 w' w.heap.size okq qv (bothAt l0 (fun k => ((k + 1 : Nat) : Int)) l0.length).2 ∧ Below w.heap.size w w' := by
  have HR0 := Aside0.mk hr0
  have HL := Aside0.mk hl
  have HI := Aside0.mk hI
  clear hr0 hc0 hl hI
  go_enter Try.func60, Try.ntmps60
  go_wp2_with (first | ((with_reducible refine gate_dst (N := 2) rfl ?_); refine zX (N := 2) (cs := #[.slice none 0 0, .slice none 0 0]) (t := 40) ?_; intro b2 hb2 w2 hx2 hl2; have nb_ := Aside0.mk (hl2); have L2 := Aside0.mk (show w.heap.size ≤ b2 from by omega); have B := nb_; have T2 := Aside0.mk hx2; clear hx2 hl2 hb2 nb_) | ((with_reducible refine gate_dst (N := 3) rfl ?_); refine zX (N := 3) (cs := #[.slice none 0 0, .slice none 0 0]) (t := 40) ?_; intro b3 hb3 w3 hx3 hl3; have n2_ := Aside0.mk (blk_below T2.out hl3); have nb_ := Aside0.mk (below_then B.out B.out.size hl3); have L3 := Aside0.mk (show b2 < b3 from by rw [hb3]; exact blk_lt T2.out); clear T2; clear B; have T2 := n2_; have B := nb_; have T3 := Aside0.mk hx3; clear hx3 hl3 hb3 nb_ n2_) | ((with_reducible refine gate_dst (N := 4) rfl ?_); refine zX (N := 4) (cs := #[.slice none 0 0, .slice none 0 0]) (t := 40) ?_; intro b4 hb4 w4 hx4 hl4; have n2_ := Aside0.mk (blk_below T2.out hl4); have n3_ := Aside0.mk (blk_below T3.out hl4); have nb_ := Aside0.mk (below_then B.out B.out.size hl4); have L4 := Aside0.mk (show b3 < b4 from by rw [hb4]; exact blk_lt T3.out); clear T2; clear T3; clear B; have T2 := n2_; have T3 := n3_; have B := nb_; have T4 := Aside0.mk hx4; clear hx4 hl4 hb4 nb_ n2_ n3_; have ha := Nat.ne_of_lt L4.out; have hz4_0 : w4.cell? ⟨b4, 0, none⟩ = some (.slice none 0 0) := (blk_cell T4.out 0).trans rfl; have hz4_1 : w4.cell? ⟨b4, 1, none⟩ = some (.slice none 0 0) := (blk_cell T4.out 1).trans rfl; have hf4_0 := blk_frozen T4.out 0; have hf4_1 := blk_frozen T4.out 1) | ((with_reducible refine gate_dst (N := 5) rfl ?_); refine zX (N := 5) (cs := #[.slice none 0 0, .slice none 0 0]) (t := 40) ?_; intro b5 hb5 w5 hx5 hl5; have q23 := L3.out; have q34 := L4.out; have q2 := L2.out; have t2_ := blk_far (p := ⟨b4, 1, none⟩) (blk_far (p := ⟨b4, 0, none⟩) T2.out (show b2 ≠ b4 by omega) (.slice none 0 0)) (show b2 ≠ b4 by omega) (.slice none 0 0); have t3_ := blk_far (p := ⟨b4, 1, none⟩) (blk_far (p := ⟨b4, 0, none⟩) T3.out (show b3 ≠ b4 by omega) (.slice none 0 0)) (show b3 ≠ b4 by omega) (.slice none 0 0); have t4_ := blk_put (cs' := #[.slice none 0 0, .slice none 0 0]) (blk_put (cs' := #[.slice none 0 0, .slice none 0 0]) T4.out 0 (.slice none 0 0) rfl) 1 (.slice none 0 0) rfl; have n2_ := Aside0.mk (blk_below t2_ hl5); have n3_ := Aside0.mk (blk_below t3_ hl5); have n4_ := Aside0.mk (blk_below t4_ hl5); have b_ := below_set (j := 1) (v := .slice none 0 0) (below_set (j := 0) (v := .slice none 0 0) B.out (show w.heap.size ≤ b4 by omega)) (show w.heap.size ≤ b4 by omega); have nb_ := Aside0.mk (below_then b_ b_.size hl5); have L5 := Aside0.mk (show b4 < b5 by rw [hb5]; exact blk_lt t4_); clear T2 T3 T4 B t2_ t3_ t4_ b_ q23 q34 q2; have T2 := n2_; have T3 := n3_; have T4 := n4_; have B := nb_; have T5 := Aside0.mk hx5; clear hx5 hl5 hb5 nb_ n2_ n3_ n4_ hz4_0 hz4_1 hf4_0 hf4_1 ha; have hz5_0 : w5.cell? ⟨b5, 0, none⟩ = some (.slice none 0 0) := (blk_cell T5.out 0).trans rfl; have hz5_1 : w5.cell? ⟨b5, 1, none⟩ = some (.slice none 0 0) := (blk_cell T5.out 1).trans rfl; have hf5_0 := blk_frozen T5.out 0; have hf5_1 := blk_frozen T5.out 1))
  go_loopg [6] l0.length (fun kq v6 wr => ∃ (i : Nat) (iv pv qv : Value) (P Q : Nat → Prop), i ≤ l0.length ∧ l0.length - i ≤ kq ∧ v6 = .int .i64 i ∧ Aside0 (wr.heap[b2]? = some (.cells #[.slice none 0 0, .slice none 0 0] 40 (0, 0))) ∧ Aside0 (wr.heap[b3]? = some (.cells #[.slice none 0 0, .slice none 0 0] 40 (0, 0))) ∧ Aside0 (wr.heap[b4]? = some (.cells #[iv, pv] 40 (0, 0))) ∧ Aside0 (wr.heap[b5]? = some (.cells #[.slice none 0 0, qv] 40 (0, 0))) ∧ Aside0 (Kd.R (Kd.int .i64) 3 wr w.heap.size P iv []) ∧ Aside0 (Kd.S (Kd.slice 3 (Kd.int .i64)) 22 wr w.heap.size (fun k => P k ∧ some k ≠ iv.ownBlock) pv (bothAt l0 (fun k => ((k + 1 : Nat) : Int)) i).1) ∧ Aside0 (Kd.S (Kd.slice 3 (Kd.int .i64)) 22 wr w.heap.size Q qv (bothAt l0 (fun k => ((k + 1 : Nat) : Int)) i).2) ∧ Aside0 (∀ k, P k → b5 < k ∧ ¬ Q k) ∧ Aside0 (∀ k, Q k → b5 < k) ∧ Aside0 (Below w.heap.size w wr))
  case atStart =>
    have o2 := L2.out; have o3 := L3.out; have o4 := L4.out; have o5 := L5.out
    refine ⟨0, .slice none 0 0, .slice none 0 0, .slice none 0 0, fun _ => False, fun _ => False, Nat.zero_le _, by omega, rfl, ?_, ?_, ?_, ?_, ⟨Kd.R_nil _ _ _ _ _⟩, ⟨Kd.S_nil _ _ _ _ _⟩, ⟨Kd.S_nil _ _ _ _ _⟩, ⟨fun _ h => h.elim⟩, ⟨fun _ h => h.elim⟩, ?_⟩
    · exact ⟨blk_far (blk_far T2.out (show b2 ≠ b5 by omega) _) (show b2 ≠ b5 by omega) _⟩
    · exact ⟨blk_far (blk_far T3.out (show b3 ≠ b5 by omega) _) (show b3 ≠ b5 by omega) _⟩
    · exact ⟨blk_far (blk_far T4.out (show b4 ≠ b5 by omega) _) (show b4 ≠ b5 by omega) _⟩
    · exact ⟨blk_put (cs' := #[.slice none 0 0, .slice none 0 0]) (blk_put (cs' := #[.slice none 0 0, .slice none 0 0]) T5.out 0 _ rfl) 1 _ rfl⟩
    · exact ⟨below_set (below_set B.out (show w.heap.size ≤ b5 by omega)) (show w.heap.size ≤ b5 by omega)⟩
  case round =>
    clear hz5_0 hz5_1 hf5_0 hf5_1 T2 T3 T4 T5 B
    obtain ⟨i, iv, pv, qv, P, Q, hi, hg, rfl, T2, T3, T4, T5, RI, SP, SQ, HP, HQ, HB⟩ := hrel
    by_cases hlt : i < l0.length
    · have hltz : (i : Int) < (l0.length : Int) := by omega
      obtain ⟨ad0, rfl, hx0⟩ := Kd.at_int (Kd.C_below HR0.out HB.out) (i : Int) (by omega) hltz
      rw [Int.toNat_natCast] at hx0
      obtain ⟨x, hxx⟩ : ∃ x, x = rd l0 (i : Int) := ⟨_, rfl⟩
      rw [← hxx] at hx0
      have XX := Aside0.mk hxx
      have IV := Aside0.mk (both_inv l0 (fun k => ((k + 1 : Nat) : Int)) i)
      obtain ⟨p, hp⟩ : ∃ p, p = (bothAt l0 (fun k => ((k + 1 : Nat) : Int)) i).1 := ⟨_, rfl⟩
      obtain ⟨q, hq⟩ : ∃ q, q = (bothAt l0 (fun k => ((k + 1 : Nat) : Int)) i).2 := ⟨_, rfl⟩
      rw [← hp, ← hq] at IV
      rw [← hp] at SP
      rw [← hq] at SQ
      have PP := Aside0.mk hp
      have QQ := Aside0.mk hq
      clear hp hq hxx
      obtain ⟨Ai, ci, ei_⟩ := Kd.R_slice RI.out
      subst ei_
      obtain ⟨Ap, cp, ep_⟩ := Kd.R_slice (Kd.S_R SP.out)
      subst ep_
      have SQ0 := Aside0.mk (Kd.S_mono (ok' := fun k => Q k ∧ k < wr.heap.size) (Kd.S_bound SQ.out) (fun k hk => ⟨hk.1, hk.2.2.1⟩))
      obtain ⟨Aq, cq, eq_⟩ := Kd.R_slice (Kd.S_R SQ.out)
      subst eq_
      have RL := Aside0.mk (insAt_le p x)
      obtain ⟨r, hr_⟩ : ∃ r, r = insAt p x := ⟨_, rfl⟩
      rw [← hr_] at RL
      have RR := Aside0.mk hr_
      clear hr_ SQ
      have ZB := Aside0.mk (blk_lt T5.out)
      have o2 := L2.out; have o3 := L3.out; have o4 := L4.out; have o5 := L5.out

      have hz4_0 : wr.cell? ⟨b4, 0, none⟩ = some (.slice Ai 0 ci) := (blk_cell T4.out 0).trans rfl
      have hz4_1 : wr.cell? ⟨b4, 1, none⟩ = some (.slice Ap p.length cp) := (blk_cell T4.out 1).trans rfl
      have hd4_0 : wr.drew.cell? ⟨b4, 0, none⟩ = some (.slice Ai 0 ci) := hz4_0
      have hd4_1 : wr.drew.cell? ⟨b4, 1, none⟩ = some (.slice Ap p.length cp) := hz4_1
      have hx0d : wr.drew.cell? (ad0.add i) = some (.int .i64 x) := hx0
      have PL := Aside0.mk (show p.length ≤ 1000 from by have := IV.out.2.1; have := HL.out; omega)
      have PR := Aside0.mk (show ∀ r ∈ p, r.length ≤ 1000 from fun r hr => by have := IV.out.2.2.1 r hr; have := HL.out; omega)
      have CC := Aside0.mk (Kd.R_reads' (Kd.S_R SP.out)).2.1
      go_upto_region 6 with fail
      go_cut [7, 8] from 17 to 25 (fun v7 v8 wx => ∃ (b7 : Nat) (A7 A8 : Option Addr) (c7 c8 : Nat), v7 = .pointer (some ⟨b7, 0, none⟩) ∧ v8 = .int .i64 (r : Nat) ∧ Aside0 (wx.heap[b7]? = some (.cells #[.slice A7 0 c7, .slice A8 (insRows p x).length c8] 40 (0, 0))) ∧ Aside0 (b7 ≠ b4) ∧ Aside0 (wx.heap[b2]? = some (.cells #[.slice none 0 0, .slice none 0 0] 40 (0, 0))) ∧ Aside0 (wx.heap[b3]? = some (.cells #[.slice none 0 0, .slice none 0 0] 40 (0, 0))) ∧ Aside0 (wx.heap[b4]? = some (.cells #[.slice Ai 0 ci, .slice Ap p.length cp] 40 (0, 0))) ∧ Aside0 (wx.heap[b5]? = some (.cells #[.slice none 0 0, .slice Aq q.length cq] 40 (0, 0))) ∧ Aside0 (Kd.R (Kd.int .i64) 3 wx w.heap.size (fun k => wr.heap.size ≤ k ∧ k < wx.heap.size) (.slice A7 0 c7) []) ∧ Aside0 (Kd.S (Kd.slice 3 (Kd.int .i64)) 22 wx w.heap.size (fun k => (wr.heap.size ≤ k ∧ k < wx.heap.size) ∧ some k ≠ (.slice A7 0 c7 : Value).ownBlock) (.slice A8 (insRows p x).length c8) (insRows p x)) ∧ Aside0 (Kd.S (Kd.slice 3 (Kd.int .i64)) 22 wx w.heap.size (fun k => Q k ∧ k < wr.heap.size) (.slice Aq q.length cq) q) ∧ Aside0 (Below w.heap.size w wx) ∧ Aside0 (wr.heap.size ≤ wx.heap.size))
      case first =>
        clear hz4_0 hz4_1
        have hlw4 := blk_lt T4.out
        have hlw5 := blk_lt T5.out
        have hadw : (ad0.add i).block < wr.heap.size := World.block_lt_of_cell? _ _ hx0
        go_region_held3 (fun W => W.cell? ⟨b4, 0, none⟩ = some (.slice Ai 0 ci) ∧ W.cell? ⟨b4, 1, none⟩ = some (.slice Ap p.length cp) ∧ W.cell? (ad0.add i) = some (.int .i64 x)) (first | exact ⟨hd4_0, hd4_1, hx0d⟩ | exact ⟨(blk_cell (blk_alloc (blk_drew T4.out) _) 0).trans rfl, (blk_cell (blk_alloc (blk_drew T4.out) _) 1).trans rfl, (World.cell?_alloc_lt _ _ _ (World.block_lt_of_cell? _ _ hx0d)).trans hx0d⟩ | exact ⟨(blk_cell U4.out 0).trans rfl, (blk_cell U4.out 1).trans rfl, hx7⟩ | exact ⟨(blk_cell (blk_alloc U4.out _) 0).trans rfl, (blk_cell (blk_alloc U4.out _) 1).trans rfl, (World.cell?_alloc_lt _ _ _ (World.block_lt_of_cell? _ _ hx7)).trans hx7⟩ | exact ⟨(blk_cell (blk_far (blk_far U4.out (show b4 ≠ _ from by intro e_; have e2_ : b4 = wr.heap.size := e_; omega) _) (show b4 ≠ _ from by intro e_; have e2_ : b4 = wr.heap.size := e_; omega) _) 0).trans rfl, (blk_cell (blk_far (blk_far U4.out (show b4 ≠ _ from by intro e_; have e2_ : b4 = wr.heap.size := e_; omega) _) (show b4 ≠ _ from by intro e_; have e2_ : b4 = wr.heap.size := e_; omega) _) 1).trans rfl, (cell_far (fun e_ => by have e2_ : (ad0.add i).block = wr.heap.size := e_; omega) _).trans ((cell_far (fun e_ => by have e2_ : (ad0.add i).block = wr.heap.size := e_; omega) _).trans hx7)⟩ | exact ⟨(blk_cell (blk_far (blk_far (blk_alloc U4.out _) (show b4 ≠ _ from by intro e_; have e2_ : b4 = w7.heap.size := e_; have := blk_lt U4.out; omega) _) (show b4 ≠ _ from by intro e_; have e2_ : b4 = w7.heap.size := e_; have := blk_lt U4.out; omega) _) 0).trans rfl, (blk_cell (blk_far (blk_far (blk_alloc U4.out _) (show b4 ≠ _ from by intro e_; have e2_ : b4 = w7.heap.size := e_; have := blk_lt U4.out; omega) _) (show b4 ≠ _ from by intro e_; have e2_ : b4 = w7.heap.size := e_; have := blk_lt U4.out; omega) _) 1).trans rfl, (cell_far (fun e_ => by have e2_ : (ad0.add i).block = w7.heap.size := e_; have := UZ.out; omega) _).trans ((cell_far (fun e_ => by have e2_ : (ad0.add i).block = w7.heap.size := e_; have := UZ.out; omega) _).trans ((World.cell?_alloc_lt _ _ _ (World.block_lt_of_cell? _ _ hx7)).trans hx7))⟩)
          (first
            | (go_at_call 69; refine (HI.out p x Ai Ap ci cp (wr.drew) PL.out PR.out (Kd.R_reads' (Kd.R_drew RI.out)).2.2 (Kd.R_reads' (Kd.S_R (Kd.S_drew SP.out))).2.2 CC.out).mono ?_; rintro e w7 ⟨v0, v1, rfl, h1, h2, h3⟩; obtain ⟨A7, c7, e7_⟩ := Kd.R_slice h1; subst e7_; obtain ⟨A8, c8, e8_⟩ := Kd.R_slice (Kd.S_R h2); subst e8_; have H1 := Aside0.mk h1; have H2 := Aside0.mk h2; have H3 := Aside0.mk h3; clear h1 h2 h3; have U2 := Aside0.mk (blk_below (blk_drew T2.out) H3.out); have U3 := Aside0.mk (blk_below (blk_drew T3.out) H3.out); have U4 := Aside0.mk (blk_below (blk_drew T4.out) H3.out); have U5 := Aside0.mk (blk_below (blk_drew T5.out) H3.out); have US := Aside0.mk (Kd.S_below (Kd.S_drew SQ0.out) H3.out); have UB := Aside0.mk (below_then (below_drew HB.out) HB.out.size H3.out); have UZ := Aside0.mk (show wr.heap.size ≤ w7.heap.size from H3.out.size); have hx7 : w7.cell? (ad0.add i) = some (.int .i64 x) := (by obtain ⟨ad9, e9_, hx9⟩ := Kd.at_int (Kd.C_below HR0.out UB.out) (i : Int) (by omega) hltz; cases e9_; rw [Int.toNat_natCast, ← XX.out] at hx9; exact hx9))
            | (go_at_call 69; refine (HI.out p x Ai Ap ci cp (wr.drew.alloc (.cells #[.slice none 0 0, .slice none 0 0] 40 (0, 0))) PL.out PR.out (Kd.R_reads' (Kd.R_alloc (Kd.R_drew RI.out) _)).2.2 (Kd.R_reads' (Kd.S_R (Kd.S_alloc (Kd.S_drew SP.out) _))).2.2 CC.out).mono ?_; rintro e w7 ⟨v0, v1, rfl, h1, h2, h3⟩; obtain ⟨A7, c7, e7_⟩ := Kd.R_slice h1; subst e7_; obtain ⟨A8, c8, e8_⟩ := Kd.R_slice (Kd.S_R h2); subst e8_; have H1 := Aside0.mk h1; have H2 := Aside0.mk h2; have H3 := Aside0.mk h3; clear h1 h2 h3; have U2 := Aside0.mk (blk_below (blk_alloc (blk_drew T2.out) _) H3.out); have U3 := Aside0.mk (blk_below (blk_alloc (blk_drew T3.out) _) H3.out); have U4 := Aside0.mk (blk_below (blk_alloc (blk_drew T4.out) _) H3.out); have U5 := Aside0.mk (blk_below (blk_alloc (blk_drew T5.out) _) H3.out); have US := Aside0.mk (Kd.S_below (Kd.S_alloc (Kd.S_drew SQ0.out) _) H3.out); have UB := Aside0.mk (below_then (below_alloc (below_drew HB.out) (.cells #[.slice none 0 0, .slice none 0 0] 40 (0, 0))) (below_alloc (below_drew HB.out) (.cells #[.slice none 0 0, .slice none 0 0] 40 (0, 0))).size H3.out); have UZ := Aside0.mk (show wr.heap.size ≤ w7.heap.size from Nat.le_trans (below_alloc (Below.refl _ wr) (.cells #[.slice none 0 0, .slice none 0 0] 40 (0, 0))).size H3.out.size); have hx7 : w7.cell? (ad0.add i) = some (.int .i64 x) := (by obtain ⟨ad9, e9_, hx9⟩ := Kd.at_int (Kd.C_below HR0.out UB.out) (i : Int) (by omega) hltz; cases e9_; rw [Int.toNat_natCast, ← XX.out] at hx9; exact hx9); have U7 := Aside0.mk (blk_below (blk_made wr.drew (.cells #[.slice none 0 0, .slice none 0 0] 40 (0, 0))) H3.out); have hz7_0 : w7.cell? ⟨wr.heap.size, 0, none⟩ = some (.slice none 0 0) := (blk_cell U7.out 0).trans rfl; have hz7_1 : w7.cell? ⟨wr.heap.size, 1, none⟩ = some (.slice none 0 0) := (blk_cell U7.out 1).trans rfl; have hf7_0 : w7.frozen? ⟨wr.heap.size, 0, none⟩ = false := blk_frozen U7.out 0; have hf7_1 : w7.frozen? ⟨wr.heap.size, 1, none⟩ = false := blk_frozen U7.out 1))
        all_goals go_wp2_with fail
        all_goals go_meet
        all_goals first
          | exact ⟨w7.heap.size, A7, A8, c7, c8, rfl, by rw [RR.out], ⟨blk_made w7 (.cells #[.slice A7 0 c7, .slice A8 (insRows p x).length c8] 40 (0, 0))⟩, ⟨by intro e_; have e2_ : w7.heap.size = b4 := e_; have := blk_lt U4.out; omega⟩, ⟨blk_alloc U2.out _⟩, ⟨blk_alloc U3.out _⟩, ⟨blk_alloc U4.out _⟩, ⟨blk_alloc U5.out _⟩, ⟨made_R H1.out HB.out.size (fun k _ hlt => Below.heap_alloc w7 (.cells #[.slice A7 0 c7, .slice A8 (insRows p x).length c8] 40 (0, 0)) k hlt) (Nat.le_of_lt (by rw [size_made w7 (.cells #[.slice A7 0 c7, .slice A8 (insRows p x).length c8] 40 (0, 0))]; exact Nat.lt_succ_self _)) (Nat.le_refl _)⟩, ⟨made_S H2.out HB.out.size (fun k _ hlt => Below.heap_alloc w7 (.cells #[.slice A7 0 c7, .slice A8 (insRows p x).length c8] 40 (0, 0)) k hlt) (Nat.le_of_lt (by rw [size_made w7 (.cells #[.slice A7 0 c7, .slice A8 (insRows p x).length c8] 40 (0, 0))]; exact Nat.lt_succ_self _)) (Nat.le_refl _)⟩, ⟨Kd.S_alloc US.out _⟩, ⟨below_alloc UB.out _⟩, ⟨Nat.le_trans UZ.out (Nat.le_of_lt (by rw [size_made w7 (.cells #[.slice A7 0 c7, .slice A8 (insRows p x).length c8] 40 (0, 0))]; exact Nat.lt_succ_self _))⟩⟩
          | exact ⟨wr.heap.size, A7, A8, c7, c8, rfl, by rw [RR.out], ⟨blk_put (cs' := #[.slice A7 0 c7, .slice A8 (insRows p x).length c8]) (blk_put (cs' := #[.slice A7 0 c7, .slice none 0 0]) U7.out 0 (.slice A7 0 c7) rfl) 1 (.slice A8 (insRows p x).length c8) rfl⟩, ⟨by intro e_; have e2_ : wr.heap.size = b4 := e_; have := blk_lt U4.out; omega⟩, ⟨blk_far (blk_far U2.out (show b2 ≠ wr.heap.size by omega) _) (show b2 ≠ wr.heap.size by omega) _⟩, ⟨blk_far (blk_far U3.out (show b3 ≠ wr.heap.size by omega) _) (show b3 ≠ wr.heap.size by omega) _⟩, ⟨blk_far (blk_far U4.out (show b4 ≠ wr.heap.size by omega) _) (show b4 ≠ wr.heap.size by omega) _⟩, ⟨blk_far (blk_far U5.out (show b5 ≠ wr.heap.size by omega) _) (show b5 ≠ wr.heap.size by omega) _⟩, ⟨made_R H1.out (Nat.le_trans HB.out.size (Nat.le_of_lt (by rw [size_made]; exact Nat.lt_succ_self _))) (fun k h _ => (Below.heap_setCell _ _ _ k (show k ≠ wr.heap.size from by intro e_; have e2_ := size_made wr.drew (.cells #[.slice none 0 0, .slice none 0 0] 40 (0, 0)); have e3_ : wr.drew.heap.size = wr.heap.size := rfl; omega)).trans (Below.heap_setCell _ _ _ k (show k ≠ wr.heap.size from by intro e_; have e2_ := size_made wr.drew (.cells #[.slice none 0 0, .slice none 0 0] 40 (0, 0)); have e3_ : wr.drew.heap.size = wr.heap.size := rfl; omega))) (Nat.le_trans (size_set w7 _ _) (size_set _ _ _)) (Nat.le_of_lt (by rw [size_made]; exact Nat.lt_succ_self _))⟩, ⟨made_S H2.out (Nat.le_trans HB.out.size (Nat.le_of_lt (by rw [size_made]; exact Nat.lt_succ_self _))) (fun k h _ => (Below.heap_setCell _ _ _ k (show k ≠ wr.heap.size from by intro e_; have e2_ := size_made wr.drew (.cells #[.slice none 0 0, .slice none 0 0] 40 (0, 0)); have e3_ : wr.drew.heap.size = wr.heap.size := rfl; omega)).trans (Below.heap_setCell _ _ _ k (show k ≠ wr.heap.size from by intro e_; have e2_ := size_made wr.drew (.cells #[.slice none 0 0, .slice none 0 0] 40 (0, 0)); have e3_ : wr.drew.heap.size = wr.heap.size := rfl; omega))) (Nat.le_trans (size_set w7 _ _) (size_set _ _ _)) (Nat.le_of_lt (by rw [size_made]; exact Nat.lt_succ_self _))⟩, ⟨Kd.S_far (Kd.S_far US.out (fun k hk e_ => by have e2_ : k = wr.heap.size := e_; have := hk.2; omega) _) (fun k hk e_ => by have e2_ : k = wr.heap.size := e_; have := hk.2; omega) _⟩, ⟨below_set (below_set UB.out HB.out.size) HB.out.size⟩, ⟨Nat.le_trans UZ.out (Nat.le_trans (size_set w7 _ _) (size_set _ _ _))⟩⟩
      case rest =>
        clear hz4_0 hz4_1 hd4_0 hd4_1 hx0d hx0 T2 T3 T4 T5 RI SP SQ0
        obtain ⟨b7, A7, A8, c7, c8, rfl, rfl, m7, n74, m2, m3, m4, m5, mI, mP, mQ, mB, zw⟩ := hcut
        have zb4 : b4 < wr.heap.size := by have := ZB.out; omega
        have hne := n74.out
        have hne' := Ne.symm n74.out
        have hz7_0 : wc.cell? ⟨b7, 0, none⟩ = some (.slice A7 0 c7) := (blk_cell m7.out 0).trans rfl
        have hz7_1 : wc.cell? ⟨b7, 1, none⟩ = some (.slice A8 (insRows p x).length c8) := (blk_cell m7.out 1).trans rfl
        have hz4_0 : wc.cell? ⟨b4, 0, none⟩ = some (.slice Ai 0 ci) := (blk_cell m4.out 0).trans rfl
        have hz4_1 : wc.cell? ⟨b4, 1, none⟩ = some (.slice Ap p.length cp) := (blk_cell m4.out 1).trans rfl
        have hf4_0 := blk_frozen m4.out 0
        have hf4_1 := blk_frozen m4.out 1
        go_upto_region 8 with fail
        have T2 := Aside0.mk (blk_far (p := ⟨b4, 1, none⟩) (blk_far (p := ⟨b4, 0, none⟩) m2.out (show b2 ≠ b4 by omega) (.slice A7 0 c7)) (show b2 ≠ b4 by omega) (.slice A8 (insRows p x).length c8))
        have T3 := Aside0.mk (blk_far (p := ⟨b4, 1, none⟩) (blk_far (p := ⟨b4, 0, none⟩) m3.out (show b3 ≠ b4 by omega) (.slice A7 0 c7)) (show b3 ≠ b4 by omega) (.slice A8 (insRows p x).length c8))
        have T5 := Aside0.mk (blk_far (p := ⟨b4, 1, none⟩) (blk_far (p := ⟨b4, 0, none⟩) m5.out (show b5 ≠ b4 by omega) (.slice A7 0 c7)) (show b5 ≠ b4 by omega) (.slice A8 (insRows p x).length c8))
        have T4 := Aside0.mk (blk_put (cs' := #[.slice A7 0 c7, .slice A8 (insRows p x).length c8]) (blk_put (cs' := #[.slice A7 0 c7, .slice Ap p.length cp]) m4.out 0 (.slice A7 0 c7) rfl) 1 (.slice A8 (insRows p x).length c8) rfl)
        have RI := Aside0.mk (Kd.R_far (p := ⟨b4, 1, none⟩) (Kd.R_far (p := ⟨b4, 0, none⟩) mI.out (fun k hk e_ => by have e2_ : k = b4 := e_; have := hk.1; omega) (.slice A7 0 c7)) (fun k hk e_ => by have e2_ : k = b4 := e_; have := hk.1; omega) (.slice A8 (insRows p x).length c8))
        have SP := Aside0.mk (Kd.S_far (p := ⟨b4, 1, none⟩) (Kd.S_far (p := ⟨b4, 0, none⟩) mP.out (fun k hk e_ => by have e2_ : k = b4 := e_; have := hk.1.1; omega) (.slice A7 0 c7)) (fun k hk e_ => by have e2_ : k = b4 := e_; have := hk.1.1; omega) (.slice A8 (insRows p x).length c8))
        have mQ := Aside0.mk (Kd.S_far (p := ⟨b4, 1, none⟩) (Kd.S_far (p := ⟨b4, 0, none⟩) mQ.out (fun k hk e_ => by have e2_ : k = b4 := e_; have := HQ.out k hk.1; omega) (.slice A7 0 c7)) (fun k hk e_ => by have e2_ : k = b4 := e_; have := HQ.out k hk.1; omega) (.slice A8 (insRows p x).length c8))
        have B := Aside0.mk (below_set (j := 1) (v := .slice A8 (insRows p x).length c8) (below_set (j := 0) (v := .slice A7 0 c7) mB.out (show w.heap.size ≤ b4 by omega)) (show w.heap.size ≤ b4 by omega))
        have zy := Aside0.mk (show wc.heap.size ≤ ((wc.setCell ⟨b4, 0, none⟩ (.slice A7 0 c7)).setCell ⟨b4, 1, none⟩ (.slice A8 (insRows p x).length c8)).heap.size from Nat.le_trans (size_set _ _ _) (size_set _ _ _))
        clear hz7_0 hz7_1 hz4_0 hz4_1 hf4_0 hf4_1 hne hne' m2 m3 m4 m5 m7 mI mP mB
        generalize (wc.setCell ⟨b4, 0, none⟩ (.slice A7 0 c7)).setCell ⟨b4, 1, none⟩ (.slice A8 (insRows p x).length c8) = wy at T2 T3 T4 T5 RI SP mQ B zy ⊢
        have hz5_1 : wy.cell? ⟨b5, 1, none⟩ = some (.slice Aq q.length cq) := (blk_cell T5.out 1).trans rfl
        have hf5_1 := blk_frozen T5.out 1
        by_cases hrq : r = q.length
        · have hrb : ((r : Int) == (q.length : Int)) = true := beq_iff_eq.mpr (by omega)
          have RQ := Aside0.mk hrq
          clear hrq
          go_wp2_with (first | ((with_reducible refine gate_dst (N := 34) rfl ?_); refine Kd.R_lit (Kd.int .i64) _ 3 ?hg (N := 34) ?hd (xs := ([] : List Int)) (inner := []) (ok := fun _ => True) (okp := fun _ => True) ?hr ?hp (fun _ hk => hk) trivial (Below.refl _ _) (Nat.le_refl _) (by simp) ?_; (case hd => rfl); (case hg => rfl); (case hr => first | (go_simp; done) | (go_simp; rfl)); (case hp => exact Reps.none _ _); intro v34 w34 ho hb hg_ hnew_; clear hg_ hnew_; have k2 := Aside0.mk (blk_below T2.out hb); have k3 := Aside0.mk (blk_below T3.out hb); have k4 := Aside0.mk (blk_below T4.out hb); have k5 := Aside0.mk (blk_below T5.out hb); have kI := Aside0.mk (Kd.R_below RI.out hb); have kP := Aside0.mk (Kd.S_below SP.out hb); have kQ := Aside0.mk (Kd.S_below mQ.out hb); have kB := Aside0.mk (below_then B.out B.out.size hb); have kz := Aside0.mk hb.size; have kR := Aside0.mk (Kd.R_mono (ok' := fun k => wy.heap.size ≤ k) (Kd.R_lower (Kd.R_bound ho) B.out.size) (fun k hk => hk.2.1)); have hk5_1 : w34.cell? ⟨b5, 1, none⟩ = some (.slice Aq q.length cq) := (blk_cell k5.out 1).trans rfl; have hl5_1 := blk_frozen k5.out 1; obtain ⟨A34, c34, e34_⟩ := Kd.R_slice ho; subst e34_; clear ho hb) | ((with_reducible refine gate_builtin (b := .append) (xs := #[.tmp 33, .tmp 35]) rfl ?_); at_builtin; refine Kd.S_append (Kd.slice 3 (Kd.int .i64)) (w0 := w) (W := w34) w.heap.size rfl (.tmp 33) (.tmp 35) 27 22 (.slice none 0 0) 24 rfl Try.underlying27 info22 rfl (by decide) (by omega) (.slice Aq q.length cq) q [] [.slice A34 0 c34] (fun k => (Q k ∧ k < wr.heap.size) ∨ wy.heap.size ≤ k) (fun k => wy.heap.size ≤ k) rfl rfl ?aM ?aK ?aF ?aO ?aB ?aS ?aL ?_; (case aM => exact ⟨_, rfl, kR.out⟩); (case aK => exact fun k hk => ⟨.inr hk, fun e_ => by have e2_ := (Kd.S_R mQ.out).1 k e_.symm; have := e2_.2; have := zy.out; have := zw.out; omega⟩); (case aF => exact fun k hk => .inr (Nat.le_trans kz.out hk)); (case aO => exact Kd.S_mono kQ.out (fun k hk => ⟨.inl hk, fun h => by have := hk.2; have := zy.out; have := zw.out; omega⟩)); (case aB => exact kB.out); (case aS => exact kB.out.size); (case aL => have := IV.out; have := HL.out; omega); intro qv7 w8 ho hb hg hat; obtain ⟨Aq2, cq2, eq_⟩ := Kd.R_slice (Kd.S_R ho); subst eq_; have K8 := Aside0.mk (Kept.of_grown hg (Kept.refl w34 (fun k => Q k ∧ k < wr.heap.size)) (fun k e => .inl ((Kd.S_R mQ.out).1 k e))); have n2 := Aside0.mk ((K8.out.2 b2 (blk_lt k2.out) (fun h => by have := HQ.out _ h.1; omega)).trans k2.out); have n3 := Aside0.mk ((K8.out.2 b3 (blk_lt k3.out) (fun h => by have := HQ.out _ h.1; omega)).trans k3.out); have n4 := Aside0.mk ((K8.out.2 b4 (blk_lt k4.out) (fun h => by have := HQ.out _ h.1; omega)).trans k4.out); have n5 := Aside0.mk ((K8.out.2 b5 (blk_lt k5.out) (fun h => by have := HQ.out _ h.1; omega)).trans k5.out); have nI := Aside0.mk (R_carry kI.out K8.out (fun k hk h => by have := hk.1; have := h.2; omega)); have nP := Aside0.mk (S_carry kP.out K8.out (fun k hk h => by have := hk.1.1; have := h.2; omega)); have nQ := Aside0.mk ho; have nB := Aside0.mk hb; clear ho hb hg hat; have hy5_1 : w8.cell? ⟨b5, 1, none⟩ = some (.slice Aq q.length cq) := (blk_cell n5.out 1).trans rfl; have hg5_1 := blk_frozen n5.out 1))
          have T2 := Aside0.mk (blk_far (p := ⟨b5, 1, none⟩) n2.out (show b2 ≠ b5 by omega) (.slice Aq2 (q.length + 1) cq2))
          have T3 := Aside0.mk (blk_far (p := ⟨b5, 1, none⟩) n3.out (show b3 ≠ b5 by omega) (.slice Aq2 (q.length + 1) cq2))
          have T4 := Aside0.mk (blk_far (p := ⟨b5, 1, none⟩) n4.out (show b4 ≠ b5 by omega) (.slice Aq2 (q.length + 1) cq2))
          have T5_ := Aside0.mk (blk_put (cs' := #[.slice none 0 0, .slice Aq2 (q.length + 1) cq2]) n5.out 1 (.slice Aq2 (q.length + 1) cq2) rfl)
          have RI_ := Aside0.mk (Kd.R_far (p := ⟨b5, 1, none⟩) nI.out (fun k hk e => by have e2_ : k = b5 := e; have := ZB.out; have := hk.1; omega) (.slice Aq2 (q.length + 1) cq2))
          have SP_ := Aside0.mk (Kd.S_far (p := ⟨b5, 1, none⟩) nP.out (fun k hk e => by have e2_ : k = b5 := e; have := ZB.out; have := hk.1.1; omega) (.slice Aq2 (q.length + 1) cq2))
          have SQ_ := Aside0.mk (Kd.S_far (p := ⟨b5, 1, none⟩) nQ.out (fun k hk e => by have e2_ : k = b5 := e; have := ZB.out; rcases hk with h | h; have := HQ.out k h.1; omega; have := zy.out; have := zw.out; omega) (.slice Aq2 (q.length + 1) cq2))
          have B := Aside0.mk (below_set (j := 1) (v := .slice Aq2 (q.length + 1) cq2) nB.out (show w.heap.size ≤ b5 by omega))
          have zz := Aside0.mk (show wc.heap.size ≤ (w8.setCell ⟨b5, 1, none⟩ (.slice Aq2 (q.length + 1) cq2)).heap.size from Nat.le_trans zy.out (Nat.le_trans kz.out (Nat.le_trans K8.out.1 (size_set _ _ _))))
          clear hz5_1 hf5_1 hk5_1 hl5_1 hy5_1 hg5_1 RI SP mQ
          generalize w8.setCell ⟨b5, 1, none⟩ (.slice Aq2 (q.length + 1) cq2) = wz at T2 T3 T4 T5_ RI_ SP_ SQ_ B zz ⊢
          have T5q : Aside0 (wz.heap[b5]? = some (.cells #[.slice none 0 0, .slice Aq2 (q ++ [[]]).length cq2] 40 (0, 0))) := ⟨by rw [show (q ++ [([] : List Int)]).length = q.length + 1 by simp]; exact T5_.out⟩
          have ST : ∃ (P2 Q2 : Nat → Prop) (q2 : List (List Int)) (A2 : Option Addr) (c2 : Nat), Aside0 (wz.heap[b5]? = some (.cells #[.slice none 0 0, .slice A2 q2.length c2] 40 (0, 0))) ∧ Aside0 (Kd.R (Kd.int .i64) 3 wz w.heap.size P2 (.slice A7 0 c7) []) ∧ Aside0 (Kd.S (Kd.slice 3 (Kd.int .i64)) 22 wz w.heap.size (fun k => P2 k ∧ some k ≠ (.slice A7 0 c7 : Value).ownBlock) (.slice A8 (insRows p x).length c8) (insRows p x)) ∧ Aside0 (Kd.S (Kd.slice 3 (Kd.int .i64)) 22 wz w.heap.size Q2 (.slice A2 q2.length c2) q2) ∧ Aside0 (∀ k, P2 k → b5 < k ∧ ¬ Q2 k ∧ k < wz.heap.size) ∧ Aside0 (∀ k, Q2 k → b5 < k) ∧ Aside0 (r < q2.length) ∧ Aside0 (q2.length ≤ i + 1) ∧ Aside0 (∀ s ∈ q2, s.length ≤ i) ∧ Aside0 (∀ n, recQ q r n = q2.set r (q2.getD r [] ++ [n])) := by
            refine ⟨_, _, q ++ [[]], _, _, T5q, RI_, SP_, SQ_, ⟨?_⟩, ⟨?_⟩, ⟨?_⟩, ⟨?_⟩, ⟨?_⟩, ⟨?_⟩⟩
            · rintro k ⟨hk1, hk2⟩; have z1 := zz.out; have z2 := ZB.out; have z3 := zy.out; refine ⟨by omega, fun h => ?_, by omega⟩; (rcases h with h | h; (have := h.2; omega); omega)
            · rintro k (h | h); exact HQ.out k h.1; have := ZB.out; have := zy.out; have := zw.out; omega
            · simp only [List.length_append, List.length_cons, List.length_nil]; have := RQ.out; omega
            · simp only [List.length_append, List.length_cons, List.length_nil]; have := IV.out.1; have := IV.out.2.1; omega
            · intro s hs; rcases List.mem_append.1 hs with h | h; exact IV.out.2.2.2 s h; (obtain rfl : s = [] := by simpa using h); simp
            · intro n; unfold recQ; rw [if_pos RQ.out]
          obtain ⟨P2, Q2, q2, A2, c2, T5, RI, SP, SQ, DP, DQ, RQ2, QL, QB, RC⟩ := ST
          have HRQ := RQ2.out
          obtain ⟨g, cc, e0⟩ : ∃ g cc, (Value.slice A2 q2.length c2) = .slice (some ⟨g, 0, none⟩) q2.length cc := by
            obtain ⟨g, cc, e0, _⟩ := Kd.R_form (Kd.S_R SQ.out) (by omega)
            injection e0 with ea el ec
            exact ⟨g, c2, by rw [ea]⟩
          injection e0 with ea _ ec
          subst ea ec
          have GB := Aside0.mk (Kd.R_base (Kd.S_R SQ.out) g (by simp [Value.ownBlock]))
          have GQ := Aside0.mk ((Kd.S_R SQ.out).1 g (by simp [Value.ownBlock]))
          have G7 := Aside0.mk (DQ.out g GQ.out)
          have T2 := Aside0.mk (blk_drew T2.out)
          have T3 := Aside0.mk (blk_drew T3.out)
          have T4 := Aside0.mk (blk_drew T4.out)
          have T5 := Aside0.mk (blk_drew T5.out)
          have RI := Aside0.mk (Kd.R_drew RI.out)
          have SP := Aside0.mk (Kd.S_drew SP.out)
          have B := Aside0.mk (below_drew B.out)
          have DP : Aside0 (∀ k, P2 k → b5 < k ∧ ¬ Q2 k ∧ k < wz.drew.heap.size) := ⟨DP.out⟩
          have DZ : Aside0 (b5 < wz.drew.heap.size) := ⟨blk_lt T5.out⟩
          obtain ⟨oki, cs, hcl, hM, hcc, hfr, hoki, hH⟩ := Kd.S_elem (Kd.S_drew SQ.out) [] (r : Int) (by omega) (by omega)
          rw [Int.toNat_natCast] at hM
          obtain ⟨v, rfl, hR⟩ := hM
          obtain ⟨Ar, cr, e1⟩ := Kd.R_slice hR
          subst e1
          have hx1 := hcc 0 _ rfl
          rw [show (r : Int).toNat * (Kd.slice 3 (Kd.int .i64)).sz + 0 = r from by show (r : Int).toNat * 1 + 0 = r; omega] at hx1
          obtain ⟨row, hrow⟩ : ∃ row, row = q2.getD r [] := ⟨_, rfl⟩
          rw [← hrow] at hx1 hR hH
          have hrl : row.length ≤ 900 := by
            have := HL.out
            rw [hrow, List.getD_eq_getElem?_getD, List.getElem?_eq_getElem HRQ]
            have := QB.out _ (List.getElem_mem HRQ)
            simp only [Option.getD_some]; omega
          have ROW := Aside0.mk hrow
          have RO := Aside0.mk hR
          have HO := Aside0.mk hoki
          have HH := Aside0.mk hH
          clear hrow hR hoki hH hcc hfr hcl SQ
          have hrz : (r : Int) < (q2.length : Int) := by omega
          refine start_ (n := 14) (S := fun w' => w'.cell? ⟨b5, 1, none⟩ = some (.slice (some ⟨g, 0, none⟩) q2.length c2) ∧ w'.cell? ⟨g, r, none⟩ = some (.slice Ar row.length cr)) (ds := [13]) zB7_0 (by kernel_rfl) rfl rfl ⟨(blk_cell T5.out 1).trans rfl, hx1⟩ (fun hHeld => ?_)
          refine with_tabW l9Both10.tab l9Both10.bits (fun HT_ HW_ => ?_)
          generalize wz.drew = wd at T2 T3 T4 T5 SP RI B DP DZ RO HH hx1 hHeld ⊢
          refine pure_ (i := 0) (N := some 38) (v := ?_) (a' := ?_) zB7_1 rfl rfl (any_of HT_.out (by kernel_rfl)) (fun _ _ _ h => h) (Or.inl ⟨by rfl, ?_⟩) ?_ ?_
          rotate_left
          · intro w'
            go_simp
            with_reducible rfl
          rotate_left
          · simp only [Act.put, List.setIfInBounds_toArray, List.set_cons_zero, List.set_cons_succ, i64_w, i32_w]
            rfl
          refine pure_ (i := 2) (N := some 40) (v := ?_) (a' := ?_) zB7_2 rfl rfl (any_of HT_.out (by kernel_rfl)) (fun _ _ _ h => h) (Or.inl ⟨by rfl, ?_⟩) ?_ ?_
          rotate_left
          · intro w'
            go_simp
            with_reducible rfl
          rotate_left
          · simp only [Act.put, List.setIfInBounds_toArray, List.set_cons_zero, List.set_cons_succ, i64_w, i32_w]
            rfl
          refine pure_ (i := 3) (N := some 41) (v := ?_) (a' := ?_) zB7_3 rfl rfl (any_of HT_.out (by kernel_rfl)) (fun _ _ _ h => h) (Or.inl ⟨by rfl, ?_⟩) ?_ ?_
          rotate_left
          · intro w'
            go_simp
            with_reducible rfl
          rotate_left
          · simp only [Act.put, List.setIfInBounds_toArray, List.set_cons_zero, List.set_cons_succ, i64_w, i32_w]
            rfl
          refine pure_ (i := 5) (N := some 43) (v := ?_) (a' := ?_) zB7_4 rfl rfl (any_of HT_.out (by kernel_rfl)) (fun _ _ _ h => h) (Or.inl ⟨by rfl, ?_⟩) ?_ ?_
          rotate_left
          · intro w'
            go_simp
            with_reducible rfl
          rotate_left
          · simp only [Act.put, List.setIfInBounds_toArray, List.set_cons_zero, List.set_cons_succ, i64_w, i32_w]
            rfl
          refine pure_ (i := 8) (N := some 46) (v := ?_) (a' := ?_) zB7_5 rfl rfl (any_of HT_.out (by kernel_rfl)) (fun _ _ _ h => h) (Or.inl ⟨by rfl, ?_⟩) ?_ ?_
          rotate_left
          · intro w'
            go_simp
            with_reducible rfl
          rotate_left
          · simp only [Act.put, List.setIfInBounds_toArray, List.set_cons_zero, List.set_cons_succ, i64_w, i32_w]
            rfl
          refine pure_ (i := 9) (N := some 47) (v := ?_) (a' := ?_) zB7_6 rfl rfl (any_of HT_.out (by kernel_rfl)) (fun _ _ _ h => h) (Or.inl ⟨by rfl, ?_⟩) ?_ ?_
          rotate_left
          · intro w'
            go_simp
            with_reducible rfl
          rotate_left
          · simp only [Act.put, List.setIfInBounds_toArray, List.set_cons_zero, List.set_cons_succ, i64_w, i32_w]
            rfl
          refine take_ (i := 1) (N := some 39) (v := ?_) (a' := ?_) zB7_7 rfl rfl (take_ofW HT_.out HW_.out (by kernel_rfl)) (fun _ _ _ h => h) (Or.inl ⟨by rfl, ?_⟩) hHeld ?_ ?_
          rotate_left
          · rintro w' ⟨s0, s1⟩
            go_simp
            with_reducible rfl
          rotate_left
          · simp only [Act.put, List.setIfInBounds_toArray, List.set_cons_zero, List.set_cons_succ, i64_w, i32_w]
            rfl
          refine take_ (i := 4) (N := some 42) (v := ?_) (a' := ?_) zB7_8 rfl rfl (take_ofW HT_.out HW_.out (by kernel_rfl)) (fun _ _ _ h => h) (Or.inl ⟨by rfl, ?_⟩) hHeld ?_ ?_
          rotate_left
          · rintro w' ⟨s0, s1⟩
            go_simp
            with_reducible rfl
          rotate_left
          · simp only [Act.put, List.setIfInBounds_toArray, List.set_cons_zero, List.set_cons_succ, i64_w, i32_w]
            rfl
          refine pure_ (i := 6) (N := some 44) (v := ?_) (a' := ?_) zB7_9 rfl rfl (any_of HT_.out (by kernel_rfl)) (fun _ _ _ h => h) (Or.inl ⟨by rfl, ?_⟩) ?_ ?_
          rotate_left
          · intro w'
            go_simp
            with_reducible rfl
          rotate_left
          · simp only [Act.put, List.setIfInBounds_toArray, List.set_cons_zero, List.set_cons_succ, i64_w, i32_w]
            rfl
          refine take_ (i := 7) (N := some 45) (v := ?_) (a' := ?_) zB7_10 rfl rfl (take_ofW HT_.out HW_.out (by kernel_rfl)) (fun _ _ _ h => h) (Or.inl ⟨by rfl, ?_⟩) hHeld ?_ ?_
          rotate_left
          · rintro w' ⟨s0, s1⟩
            go_simp
            with_reducible rfl
          rotate_left
          · simp only [Act.put, List.setIfInBounds_toArray, List.set_cons_zero, List.set_cons_succ, i64_w, i32_w]
            rfl
          refine one_ (i := 10) (N := some 48) zB7_11 rfl rfl (one_of HT_.out (by kernel_rfl)) (by decide) (fun K hK => ?_)
          refine value_ (w1 := ?_) (v := ?_) (by rfl) rfl ?_ ?_
          rotate_left 2
          · go_simp
            constructor
            · rfl
            · rfl
          refine hK.out _ _ ⟨(blk_cell (blk_alloc T5.out _) 1).trans rfl, (World.cell?_alloc_lt _ _ _ (World.block_lt_of_cell? _ _ (hHeld.2))).trans (hHeld.2)⟩ (fun hHeld => ?_)
          clear hK K
          refine norm_ (a' := ?_) ?_ ?_
          rotate_left
          · show Act.put _ (some 48) _ = _
            simp only [Act.put, List.setIfInBounds_toArray, List.set_cons_zero, List.set_cons_succ, i64_w, i32_w]
            rfl
          refine one_ (i := 11) (N := some 49) zB7_12 rfl rfl (one_of HT_.out (by kernel_rfl)) (by decide) (fun K hK => ?_)
          refine Kd.R_append_step (Kd.int .i64) (w0 := w) w.heap.size (by rfl) (.tmp 45) (.tmp 48) 22 3 (.int .i64 0) 8 rfl Try.underlying22 info3 rfl (by decide) (by omega) (.slice Ar row.length cr) row (wrap64 ((i : Int) + 1)) [.int .i64 (wrap64 ((i : Int) + 1))] (fun k => oki k ∨ (Q2 k ∨ wd.heap.size ≤ k) ∧ wd.heap.size ≤ k) (fun _ => False) rfl rfl ?aP (fun _ hk => hk.elim) ?aF ?aO ?aB ?aS ?aL ?_
          (case aP => exact rfl)
          (case aB => exact B.out)
          (case aF => exact fun k hk => .inr ⟨.inr hk, hk⟩)
          (case aO => exact Kd.R_mono RO.out (fun _ hk => .inl hk))
          (case aS => exact B.out.size)
          (case aL => omega)
          intro v9 w9 ho hb hg hat
          have K9 := Aside0.mk (Kept.of_grown hg (Kept.refl wd Q2) (fun k e => .inl (HO.out k (RO.out.1 k e)).1))
          have ZW := Aside0.mk K9.out.1
          have T2 := Aside0.mk ((K9.out.2 b2 (blk_lt T2.out) (fun h => by have o2 := L2.out; have o3 := L3.out; have o4 := L4.out; have o5 := L5.out; have := DQ.out _ h; omega)).trans T2.out)
          have T3 := Aside0.mk ((K9.out.2 b3 (blk_lt T3.out) (fun h => by have o2 := L2.out; have o3 := L3.out; have o4 := L4.out; have o5 := L5.out; have := DQ.out _ h; omega)).trans T3.out)
          have T4 := Aside0.mk ((K9.out.2 b4 (blk_lt T4.out) (fun h => by have o2 := L2.out; have o3 := L3.out; have o4 := L4.out; have o5 := L5.out; have := DQ.out _ h; omega)).trans T4.out)
          have T5 := Aside0.mk ((K9.out.2 b5 (blk_lt T5.out) (fun h => by have o2 := L2.out; have o3 := L3.out; have o4 := L4.out; have o5 := L5.out; have := DQ.out _ h; omega)).trans T5.out)
          have SP := Aside0.mk (S_carry SP.out K9.out (fun k hk h => (DP.out k hk.1).2.1 h))
          have RI := Aside0.mk (R_carry RI.out K9.out (fun k hk h => (DP.out k hk).2.1 h))
          have H9 := Aside0.mk (Kd.H_grown (Kd.H_widen (Kd.H_mono HH.out (fun k hk => (.inl hk : Q2 k ∨ wd.heap.size ≤ k)))) hg (fun k e => .inl (RO.out.1 k e)))
          have B := Aside0.mk hb
          obtain ⟨Ao, co, eo⟩ := Kd.R_slice ho
          subst eo
          have R9 := Aside0.mk ho
          obtain ⟨hc9, hf9⟩ := Kd.H_at H9.out (show (0 : Int) ≤ (r : Int) by omega) (show (r : Int) < (q2.length : Int) by omega)
          have hx9 := hc9 0 _ rfl
          have hy9 := hf9 0
          rw [show (r : Int).toNat * (Kd.slice 3 (Kd.int .i64)).sz + 0 = r from by show (r : Int).toNat * 1 + 0 = r; omega] at hx9 hy9
          clear ho hb hg hat hc9 hf9
          refine hK.out _ _ ⟨(blk_cell T5.out 1).trans rfl, hx9⟩ (fun hHeld => ?_)
          clear hK K
          refine norm_ (a' := ?_) ?_ ?_
          rotate_left
          · show Act.put _ (some 49) _ = _
            simp only [Act.put, List.setIfInBounds_toArray, List.set_cons_zero, List.set_cons_succ, i64_w, i32_w]
            rfl
          refine pure_ (i := 12) (N := some 50) (v := ?_) (a' := ?_) zB7_13 rfl rfl (any_of HT_.out (by kernel_rfl)) (fun _ _ _ h => h) (Or.inl ⟨by rfl, ?_⟩) ?_ ?_
          rotate_left
          · intro w'
            go_simp
            with_reducible rfl
          rotate_left
          · simp only [Act.put, List.setIfInBounds_toArray, List.set_cons_zero, List.set_cons_succ, i64_w, i32_w]
            rfl
          refine last_ (i := 13) (N := none) zB7_14 rfl rfl (one_of HT_.out (by kernel_rfl)) (by decide) (fun K hK => ?_)
          refine skip_ (w1 := ?_) (by rfl) rfl ?_ ?_
          rotate_left
          · go_simp
            rfl
          refine hK.out _ _ ?_
          clear hK K
          refine done_ (done_of HT_.out (by kernel_rfl)) ?_
          have SF := Aside0.mk (Kd.S_seg0 H9.out (show (0 : Int) ≤ (r : Int) by omega) (show (r : Int) < (q2.length : Int) by omega) (seg := [.slice Ao (row ++ [(wrap64 ((i : Int) + 1))]).length co]) (j := 0) (show 1 ≤ 1 from by decide) (x' := row ++ [(wrap64 ((i : Int) + 1))]) (Kd.M_row R9.out) (fun _ hk => hk)).1
          rw [show (r : Int).toNat * (Kd.slice 3 (Kd.int .i64)).sz + 0 = r from by show (r : Int).toNat * 1 + 0 = r; omega, Int.toNat_natCast, show (row ++ [(wrap64 ((i : Int) + 1))]).length = row.length + 1 by simp] at SF
          have T2 := Aside0.mk (blk_far (p := ⟨g, r, none⟩) T2.out (show b2 ≠ g by have o2 := L2.out; have o3 := L3.out; have o4 := L4.out; have o5 := L5.out; have := G7.out; omega) (.slice Ao (row.length + 1) co))
          have T3 := Aside0.mk (blk_far (p := ⟨g, r, none⟩) T3.out (show b3 ≠ g by have o2 := L2.out; have o3 := L3.out; have o4 := L4.out; have o5 := L5.out; have := G7.out; omega) (.slice Ao (row.length + 1) co))
          have T4 := Aside0.mk (blk_far (p := ⟨g, r, none⟩) T4.out (show b4 ≠ g by have o2 := L2.out; have o3 := L3.out; have o4 := L4.out; have o5 := L5.out; have := G7.out; omega) (.slice Ao (row.length + 1) co))
          have T5 := Aside0.mk (blk_far (p := ⟨g, r, none⟩) T5.out (show b5 ≠ g by have o2 := L2.out; have o3 := L3.out; have o4 := L4.out; have o5 := L5.out; have := G7.out; omega) (.slice Ao (row.length + 1) co))
          have SP := Aside0.mk (Kd.S_far (p := ⟨g, r, none⟩) SP.out (fun k hk e => (DP.out k hk.1).2.1 (by rw [e]; exact GQ.out)) (.slice Ao (row.length + 1) co))
          have RI := Aside0.mk (Kd.R_far (p := ⟨g, r, none⟩) RI.out (fun k hk e => (DP.out k hk).2.1 (by rw [e]; exact GQ.out)) (.slice Ao (row.length + 1) co))
          have B := Aside0.mk (below_set (j := r) (v := .slice Ao (row.length + 1) co) B.out GB.out)
          have E1 : (bothAt l0 (fun k => ((k + 1 : Nat) : Int)) (i + 1)).1 = insRows p x := by show insRows _ _ = _; rw [← PP.out, ← XX.out]
          have E2 : (bothAt l0 (fun k => ((k + 1 : Nat) : Int)) (i + 1)).2 = q2.set r (row ++ [wrap64 ((i : Int) + 1)]) := by show recQ _ _ _ = _; rw [← PP.out, ← QQ.out, ← XX.out, ← RR.out, RC.out, ← ROW.out, show wrap64 ((i : Int) + 1) = ((i + 1 : Nat) : Int) by have := HL.out; unfold wrap64; omega]
          rw [← E2] at SF
          have DF : Aside0 (∀ k, P2 k → b5 < k ∧ ¬ (Q2 k ∨ wd.heap.size ≤ k)) := ⟨fun k hk => ⟨(DP.out k hk).1, fun h => by rcases h with h | h; exact (DP.out k hk).2.1 h; have := (DP.out k hk).2.2; omega⟩⟩
          have DG : Aside0 (∀ k, (Q2 k ∨ wd.heap.size ≤ k) → b5 < k) := ⟨fun k hk => by rcases hk with h | h; exact DQ.out k h; have := DZ.out; omega⟩
          have HL2 := HL.out
          have SP := Aside0.mk (show Kd.S (Kd.slice 3 (Kd.int .i64)) 22 _ w.heap.size (fun k => P2 k ∧ some k ≠ (.slice A7 0 c7 : Value).ownBlock) (.slice A8 (insRows p x).length c8) (bothAt l0 (fun k => ((k + 1 : Nat) : Int)) (i + 1)).1 from by rw [E1]; exact SP.out)
          clear E1 E2
          go_wp2
          go_roundg (l0.length - (i + 1))
          all_goals first
            | omega
            | exact ⟨i + 1, .slice A7 0 c7, .slice A8 (insRows p x).length c8, .slice (some ⟨g, 0, none⟩) q2.length c2, P2, (fun k => Q2 k ∨ wd.heap.size ≤ k), by omega, by omega, by go_num, T2, T3, T4, T5, RI, SP, SF, DF, DG, B⟩
        · have hrb : ((r : Int) == (q.length : Int)) = false := beq_eq_false_iff_ne.mpr (by omega)
          have RQ := Aside0.mk (show r < q.length from by have := RL.out; have := IV.out.1; omega)
          clear hrq
          go_wp2
          clear hz5_1 hf5_1
          obtain ⟨wz, hwz⟩ : ∃ wz, wz = wy := ⟨_, rfl⟩
          subst hwz
          have ST : ∃ (P2 Q2 : Nat → Prop) (q2 : List (List Int)) (A2 : Option Addr) (c2 : Nat), Aside0 (wz.heap[b5]? = some (.cells #[.slice none 0 0, .slice A2 q2.length c2] 40 (0, 0))) ∧ Aside0 (Kd.R (Kd.int .i64) 3 wz w.heap.size P2 (.slice A7 0 c7) []) ∧ Aside0 (Kd.S (Kd.slice 3 (Kd.int .i64)) 22 wz w.heap.size (fun k => P2 k ∧ some k ≠ (.slice A7 0 c7 : Value).ownBlock) (.slice A8 (insRows p x).length c8) (insRows p x)) ∧ Aside0 (Kd.S (Kd.slice 3 (Kd.int .i64)) 22 wz w.heap.size Q2 (.slice A2 q2.length c2) q2) ∧ Aside0 (∀ k, P2 k → b5 < k ∧ ¬ Q2 k ∧ k < wz.heap.size) ∧ Aside0 (∀ k, Q2 k → b5 < k) ∧ Aside0 (r < q2.length) ∧ Aside0 (q2.length ≤ i + 1) ∧ Aside0 (∀ s ∈ q2, s.length ≤ i) ∧ Aside0 (∀ n, recQ q r n = q2.set r (q2.getD r [] ++ [n])) := by
            refine ⟨_, _, q, _, _, T5, RI, SP, mQ, ⟨?_⟩, ⟨?_⟩, ⟨?_⟩, ⟨?_⟩, ⟨?_⟩, ⟨?_⟩⟩
            · rintro k ⟨hk1, hk2⟩; have z2 := ZB.out; have z3 := zy.out; refine ⟨by omega, fun h => ?_, by omega⟩; (have := h.2; omega)
            · rintro k h; exact HQ.out k h.1
            · exact RQ.out
            · have := IV.out.1; have := IV.out.2.1; omega
            · exact IV.out.2.2.2
            · intro n; unfold recQ; rw [if_neg (by have := RQ.out; omega)]
          obtain ⟨P2, Q2, q2, A2, c2, T5, RI, SP, SQ, DP, DQ, RQ2, QL, QB, RC⟩ := ST
          have HRQ := RQ2.out
          obtain ⟨g, cc, e0⟩ : ∃ g cc, (Value.slice A2 q2.length c2) = .slice (some ⟨g, 0, none⟩) q2.length cc := by
            obtain ⟨g, cc, e0, _⟩ := Kd.R_form (Kd.S_R SQ.out) (by omega)
            injection e0 with ea el ec
            exact ⟨g, c2, by rw [ea]⟩
          injection e0 with ea _ ec
          subst ea ec
          have GB := Aside0.mk (Kd.R_base (Kd.S_R SQ.out) g (by simp [Value.ownBlock]))
          have GQ := Aside0.mk ((Kd.S_R SQ.out).1 g (by simp [Value.ownBlock]))
          have G7 := Aside0.mk (DQ.out g GQ.out)
          have T2 := Aside0.mk (blk_drew T2.out)
          have T3 := Aside0.mk (blk_drew T3.out)
          have T4 := Aside0.mk (blk_drew T4.out)
          have T5 := Aside0.mk (blk_drew T5.out)
          have RI := Aside0.mk (Kd.R_drew RI.out)
          have SP := Aside0.mk (Kd.S_drew SP.out)
          have B := Aside0.mk (below_drew B.out)
          have DP : Aside0 (∀ k, P2 k → b5 < k ∧ ¬ Q2 k ∧ k < wz.drew.heap.size) := ⟨DP.out⟩
          have DZ : Aside0 (b5 < wz.drew.heap.size) := ⟨blk_lt T5.out⟩
          obtain ⟨oki, cs, hcl, hM, hcc, hfr, hoki, hH⟩ := Kd.S_elem (Kd.S_drew SQ.out) [] (r : Int) (by omega) (by omega)
          rw [Int.toNat_natCast] at hM
          obtain ⟨v, rfl, hR⟩ := hM
          obtain ⟨Ar, cr, e1⟩ := Kd.R_slice hR
          subst e1
          have hx1 := hcc 0 _ rfl
          rw [show (r : Int).toNat * (Kd.slice 3 (Kd.int .i64)).sz + 0 = r from by show (r : Int).toNat * 1 + 0 = r; omega] at hx1
          obtain ⟨row, hrow⟩ : ∃ row, row = q2.getD r [] := ⟨_, rfl⟩
          rw [← hrow] at hx1 hR hH
          have hrl : row.length ≤ 900 := by
            have := HL.out
            rw [hrow, List.getD_eq_getElem?_getD, List.getElem?_eq_getElem HRQ]
            have := QB.out _ (List.getElem_mem HRQ)
            simp only [Option.getD_some]; omega
          have ROW := Aside0.mk hrow
          have RO := Aside0.mk hR
          have HO := Aside0.mk hoki
          have HH := Aside0.mk hH
          clear hrow hR hoki hH hcc hfr hcl SQ
          have hrz : (r : Int) < (q2.length : Int) := by omega
          refine start_ (n := 14) (S := fun w' => w'.cell? ⟨b5, 1, none⟩ = some (.slice (some ⟨g, 0, none⟩) q2.length c2) ∧ w'.cell? ⟨g, r, none⟩ = some (.slice Ar row.length cr)) (ds := [13]) zB7_0 (by kernel_rfl) rfl rfl ⟨(blk_cell T5.out 1).trans rfl, hx1⟩ (fun hHeld => ?_)
          refine with_tabW l9Both10.tab l9Both10.bits (fun HT_ HW_ => ?_)
          generalize wz.drew = wd at T2 T3 T4 T5 SP RI B DP DZ RO HH hx1 hHeld ⊢
          refine pure_ (i := 0) (N := some 38) (v := ?_) (a' := ?_) zB7_1 rfl rfl (any_of HT_.out (by kernel_rfl)) (fun _ _ _ h => h) (Or.inl ⟨by rfl, ?_⟩) ?_ ?_
          rotate_left
          · intro w'
            go_simp
            with_reducible rfl
          rotate_left
          · simp only [Act.put, List.setIfInBounds_toArray, List.set_cons_zero, List.set_cons_succ, i64_w, i32_w]
            rfl
          refine pure_ (i := 2) (N := some 40) (v := ?_) (a' := ?_) zB7_2 rfl rfl (any_of HT_.out (by kernel_rfl)) (fun _ _ _ h => h) (Or.inl ⟨by rfl, ?_⟩) ?_ ?_
          rotate_left
          · intro w'
            go_simp
            with_reducible rfl
          rotate_left
          · simp only [Act.put, List.setIfInBounds_toArray, List.set_cons_zero, List.set_cons_succ, i64_w, i32_w]
            rfl
          refine pure_ (i := 3) (N := some 41) (v := ?_) (a' := ?_) zB7_3 rfl rfl (any_of HT_.out (by kernel_rfl)) (fun _ _ _ h => h) (Or.inl ⟨by rfl, ?_⟩) ?_ ?_
          rotate_left
          · intro w'
            go_simp
            with_reducible rfl
          rotate_left
          · simp only [Act.put, List.setIfInBounds_toArray, List.set_cons_zero, List.set_cons_succ, i64_w, i32_w]
            rfl
          refine pure_ (i := 5) (N := some 43) (v := ?_) (a' := ?_) zB7_4 rfl rfl (any_of HT_.out (by kernel_rfl)) (fun _ _ _ h => h) (Or.inl ⟨by rfl, ?_⟩) ?_ ?_
          rotate_left
          · intro w'
            go_simp
            with_reducible rfl
          rotate_left
          · simp only [Act.put, List.setIfInBounds_toArray, List.set_cons_zero, List.set_cons_succ, i64_w, i32_w]
            rfl
          refine pure_ (i := 8) (N := some 46) (v := ?_) (a' := ?_) zB7_5 rfl rfl (any_of HT_.out (by kernel_rfl)) (fun _ _ _ h => h) (Or.inl ⟨by rfl, ?_⟩) ?_ ?_
          rotate_left
          · intro w'
            go_simp
            with_reducible rfl
          rotate_left
          · simp only [Act.put, List.setIfInBounds_toArray, List.set_cons_zero, List.set_cons_succ, i64_w, i32_w]
            rfl
          refine pure_ (i := 9) (N := some 47) (v := ?_) (a' := ?_) zB7_6 rfl rfl (any_of HT_.out (by kernel_rfl)) (fun _ _ _ h => h) (Or.inl ⟨by rfl, ?_⟩) ?_ ?_
          rotate_left
          · intro w'
            go_simp
            with_reducible rfl
          rotate_left
          · simp only [Act.put, List.setIfInBounds_toArray, List.set_cons_zero, List.set_cons_succ, i64_w, i32_w]
            rfl
          refine take_ (i := 1) (N := some 39) (v := ?_) (a' := ?_) zB7_7 rfl rfl (take_ofW HT_.out HW_.out (by kernel_rfl)) (fun _ _ _ h => h) (Or.inl ⟨by rfl, ?_⟩) hHeld ?_ ?_
          rotate_left
          · rintro w' ⟨s0, s1⟩
            go_simp
            with_reducible rfl
          rotate_left
          · simp only [Act.put, List.setIfInBounds_toArray, List.set_cons_zero, List.set_cons_succ, i64_w, i32_w]
            rfl
          refine take_ (i := 4) (N := some 42) (v := ?_) (a' := ?_) zB7_8 rfl rfl (take_ofW HT_.out HW_.out (by kernel_rfl)) (fun _ _ _ h => h) (Or.inl ⟨by rfl, ?_⟩) hHeld ?_ ?_
          rotate_left
          · rintro w' ⟨s0, s1⟩
            go_simp
            with_reducible rfl
          rotate_left
          · simp only [Act.put, List.setIfInBounds_toArray, List.set_cons_zero, List.set_cons_succ, i64_w, i32_w]
            rfl
          refine pure_ (i := 6) (N := some 44) (v := ?_) (a' := ?_) zB7_9 rfl rfl (any_of HT_.out (by kernel_rfl)) (fun _ _ _ h => h) (Or.inl ⟨by rfl, ?_⟩) ?_ ?_
          rotate_left
          · intro w'
            go_simp
            with_reducible rfl
          rotate_left
          · simp only [Act.put, List.setIfInBounds_toArray, List.set_cons_zero, List.set_cons_succ, i64_w, i32_w]
            rfl
          refine take_ (i := 7) (N := some 45) (v := ?_) (a' := ?_) zB7_10 rfl rfl (take_ofW HT_.out HW_.out (by kernel_rfl)) (fun _ _ _ h => h) (Or.inl ⟨by rfl, ?_⟩) hHeld ?_ ?_
          rotate_left
          · rintro w' ⟨s0, s1⟩
            go_simp
            with_reducible rfl
          rotate_left
          · simp only [Act.put, List.setIfInBounds_toArray, List.set_cons_zero, List.set_cons_succ, i64_w, i32_w]
            rfl
          refine one_ (i := 10) (N := some 48) zB7_11 rfl rfl (one_of HT_.out (by kernel_rfl)) (by decide) (fun K hK => ?_)
          refine value_ (w1 := ?_) (v := ?_) (by rfl) rfl ?_ ?_
          rotate_left 2
          · go_simp
            constructor
            · rfl
            · rfl
          refine hK.out _ _ ⟨(blk_cell (blk_alloc T5.out _) 1).trans rfl, (World.cell?_alloc_lt _ _ _ (World.block_lt_of_cell? _ _ (hHeld.2))).trans (hHeld.2)⟩ (fun hHeld => ?_)
          clear hK K
          refine norm_ (a' := ?_) ?_ ?_
          rotate_left
          · show Act.put _ (some 48) _ = _
            simp only [Act.put, List.setIfInBounds_toArray, List.set_cons_zero, List.set_cons_succ, i64_w, i32_w]
            rfl
          refine one_ (i := 11) (N := some 49) zB7_12 rfl rfl (one_of HT_.out (by kernel_rfl)) (by decide) (fun K hK => ?_)
          refine Kd.R_append_step (Kd.int .i64) (w0 := w) w.heap.size (by rfl) (.tmp 45) (.tmp 48) 22 3 (.int .i64 0) 8 rfl Try.underlying22 info3 rfl (by decide) (by omega) (.slice Ar row.length cr) row (wrap64 ((i : Int) + 1)) [.int .i64 (wrap64 ((i : Int) + 1))] (fun k => oki k ∨ (Q2 k ∨ wd.heap.size ≤ k) ∧ wd.heap.size ≤ k) (fun _ => False) rfl rfl ?aP (fun _ hk => hk.elim) ?aF ?aO ?aB ?aS ?aL ?_
          (case aP => exact rfl)
          (case aB => exact B.out)
          (case aF => exact fun k hk => .inr ⟨.inr hk, hk⟩)
          (case aO => exact Kd.R_mono RO.out (fun _ hk => .inl hk))
          (case aS => exact B.out.size)
          (case aL => omega)
          intro v9 w9 ho hb hg hat
          have K9 := Aside0.mk (Kept.of_grown hg (Kept.refl wd Q2) (fun k e => .inl (HO.out k (RO.out.1 k e)).1))
          have ZW := Aside0.mk K9.out.1
          have T2 := Aside0.mk ((K9.out.2 b2 (blk_lt T2.out) (fun h => by have o2 := L2.out; have o3 := L3.out; have o4 := L4.out; have o5 := L5.out; have := DQ.out _ h; omega)).trans T2.out)
          have T3 := Aside0.mk ((K9.out.2 b3 (blk_lt T3.out) (fun h => by have o2 := L2.out; have o3 := L3.out; have o4 := L4.out; have o5 := L5.out; have := DQ.out _ h; omega)).trans T3.out)
          have T4 := Aside0.mk ((K9.out.2 b4 (blk_lt T4.out) (fun h => by have o2 := L2.out; have o3 := L3.out; have o4 := L4.out; have o5 := L5.out; have := DQ.out _ h; omega)).trans T4.out)
          have T5 := Aside0.mk ((K9.out.2 b5 (blk_lt T5.out) (fun h => by have o2 := L2.out; have o3 := L3.out; have o4 := L4.out; have o5 := L5.out; have := DQ.out _ h; omega)).trans T5.out)
          have SP := Aside0.mk (S_carry SP.out K9.out (fun k hk h => (DP.out k hk.1).2.1 h))
          have RI := Aside0.mk (R_carry RI.out K9.out (fun k hk h => (DP.out k hk).2.1 h))
          have H9 := Aside0.mk (Kd.H_grown (Kd.H_widen (Kd.H_mono HH.out (fun k hk => (.inl hk : Q2 k ∨ wd.heap.size ≤ k)))) hg (fun k e => .inl (RO.out.1 k e)))
          have B := Aside0.mk hb
          obtain ⟨Ao, co, eo⟩ := Kd.R_slice ho
          subst eo
          have R9 := Aside0.mk ho
          obtain ⟨hc9, hf9⟩ := Kd.H_at H9.out (show (0 : Int) ≤ (r : Int) by omega) (show (r : Int) < (q2.length : Int) by omega)
          have hx9 := hc9 0 _ rfl
          have hy9 := hf9 0
          rw [show (r : Int).toNat * (Kd.slice 3 (Kd.int .i64)).sz + 0 = r from by show (r : Int).toNat * 1 + 0 = r; omega] at hx9 hy9
          clear ho hb hg hat hc9 hf9
          refine hK.out _ _ ⟨(blk_cell T5.out 1).trans rfl, hx9⟩ (fun hHeld => ?_)
          clear hK K
          refine norm_ (a' := ?_) ?_ ?_
          rotate_left
          · show Act.put _ (some 49) _ = _
            simp only [Act.put, List.setIfInBounds_toArray, List.set_cons_zero, List.set_cons_succ, i64_w, i32_w]
            rfl
          refine pure_ (i := 12) (N := some 50) (v := ?_) (a' := ?_) zB7_13 rfl rfl (any_of HT_.out (by kernel_rfl)) (fun _ _ _ h => h) (Or.inl ⟨by rfl, ?_⟩) ?_ ?_
          rotate_left
          · intro w'
            go_simp
            with_reducible rfl
          rotate_left
          · simp only [Act.put, List.setIfInBounds_toArray, List.set_cons_zero, List.set_cons_succ, i64_w, i32_w]
            rfl
          refine last_ (i := 13) (N := none) zB7_14 rfl rfl (one_of HT_.out (by kernel_rfl)) (by decide) (fun K hK => ?_)
          refine skip_ (w1 := ?_) (by rfl) rfl ?_ ?_
          rotate_left
          · go_simp
            rfl
          refine hK.out _ _ ?_
          clear hK K
          refine done_ (done_of HT_.out (by kernel_rfl)) ?_
          have SF := Aside0.mk (Kd.S_seg0 H9.out (show (0 : Int) ≤ (r : Int) by omega) (show (r : Int) < (q2.length : Int) by omega) (seg := [.slice Ao (row ++ [(wrap64 ((i : Int) + 1))]).length co]) (j := 0) (show 1 ≤ 1 from by decide) (x' := row ++ [(wrap64 ((i : Int) + 1))]) (Kd.M_row R9.out) (fun _ hk => hk)).1
          rw [show (r : Int).toNat * (Kd.slice 3 (Kd.int .i64)).sz + 0 = r from by show (r : Int).toNat * 1 + 0 = r; omega, Int.toNat_natCast, show (row ++ [(wrap64 ((i : Int) + 1))]).length = row.length + 1 by simp] at SF
          have T2 := Aside0.mk (blk_far (p := ⟨g, r, none⟩) T2.out (show b2 ≠ g by have o2 := L2.out; have o3 := L3.out; have o4 := L4.out; have o5 := L5.out; have := G7.out; omega) (.slice Ao (row.length + 1) co))
          have T3 := Aside0.mk (blk_far (p := ⟨g, r, none⟩) T3.out (show b3 ≠ g by have o2 := L2.out; have o3 := L3.out; have o4 := L4.out; have o5 := L5.out; have := G7.out; omega) (.slice Ao (row.length + 1) co))
          have T4 := Aside0.mk (blk_far (p := ⟨g, r, none⟩) T4.out (show b4 ≠ g by have o2 := L2.out; have o3 := L3.out; have o4 := L4.out; have o5 := L5.out; have := G7.out; omega) (.slice Ao (row.length + 1) co))
          have T5 := Aside0.mk (blk_far (p := ⟨g, r, none⟩) T5.out (show b5 ≠ g by have o2 := L2.out; have o3 := L3.out; have o4 := L4.out; have o5 := L5.out; have := G7.out; omega) (.slice Ao (row.length + 1) co))
          have SP := Aside0.mk (Kd.S_far (p := ⟨g, r, none⟩) SP.out (fun k hk e => (DP.out k hk.1).2.1 (by rw [e]; exact GQ.out)) (.slice Ao (row.length + 1) co))
          have RI := Aside0.mk (Kd.R_far (p := ⟨g, r, none⟩) RI.out (fun k hk e => (DP.out k hk).2.1 (by rw [e]; exact GQ.out)) (.slice Ao (row.length + 1) co))
          have B := Aside0.mk (below_set (j := r) (v := .slice Ao (row.length + 1) co) B.out GB.out)
          have E1 : (bothAt l0 (fun k => ((k + 1 : Nat) : Int)) (i + 1)).1 = insRows p x := by show insRows _ _ = _; rw [← PP.out, ← XX.out]
          have E2 : (bothAt l0 (fun k => ((k + 1 : Nat) : Int)) (i + 1)).2 = q2.set r (row ++ [wrap64 ((i : Int) + 1)]) := by show recQ _ _ _ = _; rw [← PP.out, ← QQ.out, ← XX.out, ← RR.out, RC.out, ← ROW.out, show wrap64 ((i : Int) + 1) = ((i + 1 : Nat) : Int) by have := HL.out; unfold wrap64; omega]
          rw [← E2] at SF
          have DF : Aside0 (∀ k, P2 k → b5 < k ∧ ¬ (Q2 k ∨ wd.heap.size ≤ k)) := ⟨fun k hk => ⟨(DP.out k hk).1, fun h => by rcases h with h | h; exact (DP.out k hk).2.1 h; have := (DP.out k hk).2.2; omega⟩⟩
          have DG : Aside0 (∀ k, (Q2 k ∨ wd.heap.size ≤ k) → b5 < k) := ⟨fun k hk => by rcases hk with h | h; exact DQ.out k h; have := DZ.out; omega⟩
          have HL2 := HL.out
          have SP := Aside0.mk (show Kd.S (Kd.slice 3 (Kd.int .i64)) 22 _ w.heap.size (fun k => P2 k ∧ some k ≠ (.slice A7 0 c7 : Value).ownBlock) (.slice A8 (insRows p x).length c8) (bothAt l0 (fun k => ((k + 1 : Nat) : Int)) (i + 1)).1 from by rw [E1]; exact SP.out)
          clear E1 E2
          go_wp2
          go_roundg (l0.length - (i + 1))
          all_goals first
            | omega
            | exact ⟨i + 1, .slice A7 0 c7, .slice A8 (insRows p x).length c8, .slice (some ⟨g, 0, none⟩) q2.length c2, P2, (fun k => Q2 k ∨ wd.heap.size ≤ k), by omega, by omega, by go_num, T2, T3, T4, T5, RI, SP, SF, DF, DG, B⟩
    · have hie : i = l0.length := by omega
      have hltz : ¬ (i : Int) < (l0.length : Int) := by omega
      have HE := Aside0.mk hie
      clear hie
      have o2 := L2.out; have o3 := L3.out; have o4 := L4.out; have o5 := L5.out
      obtain ⟨Ai, ci, ei_⟩ := Kd.R_slice RI.out
      subst ei_
      obtain ⟨Ap, cp, ep_⟩ := Kd.R_slice (Kd.S_R SP.out)
      subst ep_
      obtain ⟨Aq, cq, eq_⟩ := Kd.R_slice (Kd.S_R SQ.out)
      subst eq_
      have T2d := blk_drew T2.out
      have T3d := blk_drew T3.out
      have T4d := blk_drew T4.out
      have T5d := blk_drew T5.out
      have hz2_0 : wr.cell? ⟨b2, 0, none⟩ = some (.slice none 0 0) := (blk_cell T2.out 0).trans rfl
      have hd2_0 : wr.drew.cell? ⟨b2, 0, none⟩ = some (.slice none 0 0) := (blk_cell T2d 0).trans rfl
      have hf2_0 := blk_frozen T2.out 0
      have hg2_0 := blk_frozen T2d 0
      have hz2_1 : wr.cell? ⟨b2, 1, none⟩ = some (.slice none 0 0) := (blk_cell T2.out 1).trans rfl
      have hd2_1 : wr.drew.cell? ⟨b2, 1, none⟩ = some (.slice none 0 0) := (blk_cell T2d 1).trans rfl
      have hf2_1 := blk_frozen T2.out 1
      have hg2_1 := blk_frozen T2d 1
      have hz3_0 : wr.cell? ⟨b3, 0, none⟩ = some (.slice none 0 0) := (blk_cell T3.out 0).trans rfl
      have hd3_0 : wr.drew.cell? ⟨b3, 0, none⟩ = some (.slice none 0 0) := (blk_cell T3d 0).trans rfl
      have hf3_0 := blk_frozen T3.out 0
      have hg3_0 := blk_frozen T3d 0
      have hz3_1 : wr.cell? ⟨b3, 1, none⟩ = some (.slice none 0 0) := (blk_cell T3.out 1).trans rfl
      have hd3_1 : wr.drew.cell? ⟨b3, 1, none⟩ = some (.slice none 0 0) := (blk_cell T3d 1).trans rfl
      have hf3_1 := blk_frozen T3.out 1
      have hg3_1 := blk_frozen T3d 1
      have hz4_0 : wr.cell? ⟨b4, 0, none⟩ = some (.slice Ai 0 ci) := (blk_cell T4.out 0).trans rfl
      have hd4_0 : wr.drew.cell? ⟨b4, 0, none⟩ = some (.slice Ai 0 ci) := (blk_cell T4d 0).trans rfl
      have hf4_0 := blk_frozen T4.out 0
      have hg4_0 := blk_frozen T4d 0
      have hz4_1 : wr.cell? ⟨b4, 1, none⟩ = some (.slice Ap (bothAt l0 (fun k => ((k + 1 : Nat) : Int)) i).1.length cp) := (blk_cell T4.out 1).trans rfl
      have hd4_1 : wr.drew.cell? ⟨b4, 1, none⟩ = some (.slice Ap (bothAt l0 (fun k => ((k + 1 : Nat) : Int)) i).1.length cp) := (blk_cell T4d 1).trans rfl
      have hf4_1 := blk_frozen T4.out 1
      have hg4_1 := blk_frozen T4d 1
      have hz5_0 : wr.cell? ⟨b5, 0, none⟩ = some (.slice none 0 0) := (blk_cell T5.out 0).trans rfl
      have hd5_0 : wr.drew.cell? ⟨b5, 0, none⟩ = some (.slice none 0 0) := (blk_cell T5d 0).trans rfl
      have hf5_0 := blk_frozen T5.out 0
      have hg5_0 := blk_frozen T5d 0
      have hz5_1 : wr.cell? ⟨b5, 1, none⟩ = some (.slice Aq (bothAt l0 (fun k => ((k + 1 : Nat) : Int)) i).2.length cq) := (blk_cell T5.out 1).trans rfl
      have hd5_1 : wr.drew.cell? ⟨b5, 1, none⟩ = some (.slice Aq (bothAt l0 (fun k => ((k + 1 : Nat) : Int)) i).2.length cq) := (blk_cell T5d 1).trans rfl
      have hf5_1 := blk_frozen T5.out 1
      have hg5_1 := blk_frozen T5d 1
      have ne2_3 : b2 ≠ b3 := by omega
      have ne2_4 : b2 ≠ b4 := by omega
      have ne2_5 : b2 ≠ b5 := by omega
      have ne3_2 : b3 ≠ b2 := by omega
      have ne3_4 : b3 ≠ b4 := by omega
      have ne3_5 : b3 ≠ b5 := by omega
      have ne4_2 : b4 ≠ b2 := by omega
      have ne4_3 : b4 ≠ b3 := by omega
      have ne4_5 : b4 ≠ b5 := by omega
      have ne5_2 : b5 ≠ b2 := by omega
      have ne5_3 : b5 ≠ b3 := by omega
      have ne5_4 : b5 ≠ b4 := by omega
      have OO := Aside0.mk (show w.heap.size ≤ b2 ∧ w.heap.size ≤ b3 from by constructor <;> omega)
      have hlw := blk_lt T2.out
      clear T2d T3d T4d T5d
      go_wp2
      go_region_with fail
      all_goals go_wp2
      all_goals have he_ := HE.out
      all_goals subst he_
      all_goals refine bodyPost_ret (results_cc rfl _ _ b2 b3 40 40 #[.slice Ai 0 ci, .slice Ap (bothAt l0 (fun k => ((k + 1 : Nat) : Int)) l0.length).1.length cp] #[.slice none 0 0, .slice Aq (bothAt l0 (fun k => ((k + 1 : Nat) : Int)) l0.length).2.length cq] (0, 0) (0, 0) _ _ rfl (blk_drew (blk_far (blk_far (blk_put (cs' := #[.slice Ai 0 ci, .slice Ap (bothAt l0 (fun k => ((k + 1 : Nat) : Int)) l0.length).1.length cp]) (blk_put (cs' := #[.slice Ai 0 ci, .slice none 0 0]) T2.out 0 _ rfl) 1 _ rfl) ne2_3 _) ne2_3 _)) Try.underlying40 rfl (by kernel_rfl) rfl (blk_drew (blk_put (cs' := #[.slice none 0 0, .slice Aq (bothAt l0 (fun k => ((k + 1 : Nat) : Int)) l0.length).2.length cq]) (blk_put (cs' := #[.slice none 0 0, .slice none 0 0]) (blk_far (blk_far T3.out ne3_2 _) ne3_2 _) 0 _ rfl) 1 _ rfl)) Try.underlying40 rfl (by kernel_rfl)) rfl ?_
      all_goals refine ⟨_, _, _, P, Q, ?_, fun k hk => (HP.out k hk).2, Kd.R_drew (Kd.R_far (p := ⟨b3, 1, none⟩) (Kd.R_far (p := ⟨b3, 0, none⟩) (Kd.R_far (p := ⟨b2, 1, none⟩) (Kd.R_far (p := ⟨b2, 0, none⟩) RI.out (fun k hk e => by have e2_ : k = b2 := e; have := (HP.out k hk).1; omega) _) (fun k hk e => by have e2_ : k = b2 := e; have := (HP.out k hk).1; omega) _) (fun k hk e => by have e2_ : k = b3 := e; have := (HP.out k hk).1; omega) _) (fun k hk e => by have e2_ : k = b3 := e; have := (HP.out k hk).1; omega) _), Kd.S_drew (Kd.S_far (p := ⟨b3, 1, none⟩) (Kd.S_far (p := ⟨b3, 0, none⟩) (Kd.S_far (p := ⟨b2, 1, none⟩) (Kd.S_far (p := ⟨b2, 0, none⟩) SP.out (fun k hk e => by have e2_ : k = b2 := e; have := (HP.out k hk.1).1; omega) _) (fun k hk e => by have e2_ : k = b2 := e; have := (HP.out k hk.1).1; omega) _) (fun k hk e => by have e2_ : k = b3 := e; have := (HP.out k hk.1).1; omega) _) (fun k hk e => by have e2_ : k = b3 := e; have := (HP.out k hk.1).1; omega) _), Kd.S_drew (Kd.S_far (p := ⟨b3, 1, none⟩) (Kd.S_far (p := ⟨b3, 0, none⟩) (Kd.S_far (p := ⟨b2, 1, none⟩) (Kd.S_far (p := ⟨b2, 0, none⟩) SQ.out (fun k hk e => by have e2_ : k = b2 := e; have := HQ.out k hk; omega) _) (fun k hk e => by have e2_ : k = b2 := e; have := HQ.out k hk; omega) _) (fun k hk e => by have e2_ : k = b3 := e; have := HQ.out k hk; omega) _) (fun k hk e => by have e2_ : k = b3 := e; have := HQ.out k hk; omega) _), below_drew (below_set (below_set (below_set (below_set HB.out OO.out.1) OO.out.1) OO.out.2) OO.out.2)⟩
      all_goals first | rfl | simp
theorem l9Both_calls (w : World) (A0 : Option Addr) (c0 : Nat) (l0 : List Int) (hr0 : Kd.C (Kd.int .i64) w A0 l0.length l0) (hc0 : l0.length ≤ c0) (hl : l0.length ≤ 900) :
    Calls Try.prog 60 #[.slice A0 l0.length c0] w fun e w' => ∃ (iv pv qv : Value) (okp okq : Nat → Prop), e = .returned (.tuple #[.agg #[iv, pv], .agg #[.slice none 0 0, qv]]) ∧ (∀ k, okp k → ¬ okq k) ∧ Kd.R (Kd.int .i64) 3 w' w.heap.size okp iv [] ∧ Kd.S (Kd.slice 3 (Kd.int .i64)) 22 w' w.heap.size (fun k => okp k ∧ some k ≠ iv.ownBlock) pv (bothAt l0 (fun k => ((k + 1 : Nat) : Int)) l0.length).1 ∧ Kd.S (Kd.slice 3 (Kd.int .i64)) 22 w' w.heap.size okq qv (bothAt l0 (fun k => ((k + 1 : Nat) : Int)) l0.length).2 ∧ Below w.heap.size w w' := by
  refine l9Both_walk w A0 c0 l0 hr0 hc0 hl (fun p x A A' c c' W hp hr hC hC' hc' => ?_)
  obtain ⟨K, hK⟩ := (l9Insert_ev p x hp hr).rounds
  exact spec_l9Insert.calls K A c [] A' c' p x [] (insRows p x) ((insAt p x : Nat) : Int) W hC (Nat.zero_le _) hC' hc' hK

-- NOT PRINTED: function 37 (spec_PairOfMatrix)

end Go.Proofs.Ytekjnjejgefbhaa.F
