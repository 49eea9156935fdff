/- The walk of pairsOf: the pairs of a matrix; condition: a matrix. -/
import Derived.Test.YtekjnjejgefbhaaF0
import Derived.Test.YtekjnjejgefbhaaF3
import Derived.Test.YtekjnjejgefbhaaQBase
import Derived.Test.YtekjnjejgefbhaaQRows
import Derived.Test.YtekjnjejgefbhaaQMatrix
import Derived.Test.YtekjnjejgefbhaaQMatWord
import Derived.Test.YtekjnjejgefbhaaQKeep
import Derived.Test.YtekjnjejgefbhaaQSteps
import Derived.Test.YtekjnjejgefbhaaQBoxes
import Derived.Test.YtekjnjejgefbhaaQRepeat
import Derived.IntWalk
set_option linter.unusedVariables false
set_option linter.unusedSimpArgs false
namespace Go.Proofs.Ytekjnjejgefbhaa.Q
open Go.RowKit Go.Proofs.Ytekjnjejgefbhaa.F Go.Proofs.YtekjnjejgefbhaaW.PrintWords Go.Proofs.YtekjnjejgefbhaaW.PrintLast Go.Proofs.YtekjnjejgefbhaaW.PrintMore
/-- the kind of pairs of whole numbers -/
def pairKd : Kd (Int × Int) where
  sz := 2
  E := []
  K := fun _ p cs => cs = [.int .i64 p.1, .int .i64 p.2]
  M := fun _ _ _ p cs => cs = [.int .i64 p.1, .int .i64 p.2]
  K_len := by
    rintro w x cs rfl
    rfl
  K_one := by
    rintro w x cs rfl u hu
    simp only [List.mem_cons, List.not_mem_nil, or_false] at hu
    rcases hu with rfl | rfl <;> rfl
  K_below := by
    rintro w w1 x cs hb h
    exact h
  K_of_M := by
    rintro w base ok x cs h
    exact h
  M_mono := by
    rintro w base ok ok' x cs hok h
    exact h
  M_bound := by
    rintro w base ok x cs h
    exact h
  M_move := by
    rintro w w1 base ok x cs hm h
    exact h
  M_lower := by
    rintro w base base' ok x cs hb h
    exact h
theorem pairC_at (x y : Int) : ∀ (n j : Nat), j < n → (pairC x y n)[j * 2]? = some (.int .i64 x) ∧ (pairC x y n)[j * 2 + 1]? = some (.int .i64 y)
  | 0, j, h => by omega
  | n + 1, 0, _ => by simp [pairC]
  | n + 1, j + 1, h => by
    have := pairC_at x y n j (by omega)
    rw [show (j + 1) * 2 = j * 2 + 1 + 1 by omega]
    simpa [pairC] using this
theorem rep_C {W : World} {g : Nat} {x y : Int} {n : Nat} (h : W.heap[g]? = some (.cells (pairC x y n).toArray 59 (0, 0))) (hn : n ≤ 9) : Kd.C pairKd W (some ⟨g, 0, none⟩) n (List.replicate n (x, y)) := by
  refine ⟨List.length_replicate, by omega, fun _ => ⟨_, rfl, fun j p hj => ⟨[.int .i64 p.1, .int .i64 p.2], rfl, rfl, fun i u hu => ?_⟩⟩⟩
  have hjl : j < n := by
    have := (List.getElem?_eq_some_iff.1 hj).1
    rwa [List.length_replicate] at this
  obtain rfl : (x, y) = p := by
    rw [List.getElem?_replicate, if_pos hjl] at hj
    exact Option.some.inj hj
  obtain ⟨h1, h2⟩ := pairC_at x y n j hjl
  rw [add_at, Nat.zero_add, blk_cell h]
  show (pairC x y n).toArray[j * 2 + i]? = some u
  rw [List.getElem?_toArray]
  match i, hu with
  | 0, hu => rw [Nat.add_zero, h1]; simpa using hu
  | 1, hu => rw [h2]; simpa using hu
section
variable {ops : Array Oper} {rest : List Oper} {oi : Oper} {a : Act} {Q : Exit → Act → World → Prop} {w W : World} {L : List Ob} {ok : Nat → Prop} {v : Value} {xs ys : List (Int × Int)}
theorem St.litP {N : Tmp} (hgd : oi.guard = none) (hd : oi.dst = some N) (hrun : (execOp a.eval oi).run Try.prog W = .ok (.value (.slice (some ⟨W.heap.size, 0, none⟩) 0 0)) (W.alloc (.cells #[] 59))) (h : St w W L)
    (hk : ∀ v1 w1 ok1, St w w1 (obR pairKd 59 w ok1 v1 [] :: L) → wpList Try.prog ops Q rest (a.put oi.dst v1) w1) : wpList Try.prog ops Q (oi :: rest) a W := by
  refine Kd.R_lit pairKd (w0 := W) W.heap.size 59 hgd hd (xs := []) (inner := []) (ok := fun _ => True) (okp := fun _ => False) hrun (Reps.none _ _) (fun _ h => h.elim) trivial (Below.refl _ _) (Nat.le_refl _) (by simp) ?_
  intro v1 w1 hR hB _ _
  obtain ⟨ok1, h1⟩ := h.addR hB hR
  exact hk v1 w1 ok1 h1
theorem St.putRows {A : Option Addr} {m cA : Nat} (hgd : oi.guard = none) (s y : Operand) (ho : oi.op = .call { callee := .builtin .append, args := #[s, y], argTypes := #[57, 57] })
    (h : St w W L) (n : Nat) (hn : L[n]? = some (obR pairKd 59 w ok v xs)) (hs : a.eval s = v) (hx : a.eval y = .slice A m cA) (HR : Kd.C pairKd W A m ys) (hl : (xs.length + m) * 16 ≤ 140737488355328)
    (hk : ∀ v1 w1 ok1, St w w1 (L.set n (obR pairKd 59 w ok1 v1 (xs ++ ys))) → wpList Try.prog ops Q rest (a.put oi.dst v1) w1) :
    wpList Try.prog ops Q (oi :: rest) a W := by
  have hR : Kd.R pairKd 59 W w.heap.size ok v xs := h.get n hn
  refine Kd.R_append_rows pairKd (Rr := pairKd.K W) (w0 := w) w.heap.size hgd s y 57 59 (.agg #[.int .i64 0, .int .i64 0]) 16 ho und_pairs info_pair rfl (by decide) (by omega) v xs ys A m cA (fun k => ok k ∨ W.heap.size ≤ k) (fun _ => False) hs hx (Kd.R_mono hR (fun k hk => .inl hk)) HR (fun _ _ h => h) (fun _ h => h.elim) (fun _ h => .inr h) h.below h.below.size hl ?_
  intro v1 w1 hR1 hB hg _
  exact hk v1 w1 _ (St.redo1 (o' := obR pairKd 59 w (fun k => (ok k ∨ W.heap.size ≤ k) ∧ w.heap.size ≤ k ∧ k < w1.heap.size) v1 (xs ++ ys)) h n hn ⟨hg.size, fun k hk hne => hg.block k hk (fun e2 => hne (hR.1 k e2.symm))⟩ hB ⟨fun k hk => hk, Kd.R_mono (Kd.R_bound hR1) (fun k hk => ⟨hk.1, hk.2.1, hk.2.2.1⟩), firmR⟩)
end
set_option maxHeartbeats 8000000 in
set_option maxRecDepth 100000 in
theorem pairsOf_calls (A0 : Option Addr) (c0 : Nat) (m : List (List Int)) (w : World) (hr0 : Kd.C (Kd.slice 3 (Kd.int .i64)) w A0 m.length m) (hc0 : m.length ≤ c0) (hM : IsMat m) :
    Calls Try.prog 68 #[.slice A0 m.length c0] w fun e w' => ∃ v, e = .returned v ∧ Kd.R pairKd 59 w' w.heap.size (fun _ => True) v (matPairs m 0) ∧ Below w.heap.size w w' := by
  have C0 := Aside0.mk hr0
  have HM := Aside0.mk hM
  have hm9 := hM.1
  have H0 := Aside0.mk (St.start w)
  clear hr0 hM
  go_enter Try.func68, Try.ntmps68
  go_wp2_with ((with_reducible refine gate_dst (N := 8) rfl ?_); refine St.litP (N := 8) rfl rfl ?hr H0.out ?_; (case hr => first | (go_simp; done) | (go_simp; rfl)); intro v3 w3 ok3 h_; have H3 := Aside0.mk h_; clear h_)
  go_loopg [3, 11] m.length (fun kq v3 v11 wr => ∃ (i : Nat) (out : List (Int × Int)) (ok : Nat → Prop), i ≤ m.length ∧ m.length - i ≤ kq ∧ v11 = .int .i64 (i : Int) ∧ Aside0 (out ++ matPairs (m.drop i) i = matPairs m 0) ∧ Aside0 (out.length ≤ 81 * i) ∧ Aside0 (St w wr [obR pairKd 59 w ok v3 out]))
  case atStart => exact ⟨0, [], ok3, Nat.zero_le _, by omega, rfl, ⟨by rw [List.drop_zero]; rfl⟩, ⟨by simp⟩, H3⟩
  case round =>
    clear H0 H3
    obtain ⟨i, out, ok, hi, hg, rfl, HE, HL, HS⟩ := hrel
    by_cases hlt : i < m.length
    · have hltz : (i : Int) < (m.length : Int) := by omega
      obtain ⟨ad, Ar, cr, e, hxw, hl, hiw⟩ := at_L1 C0.out (i : Int) (by omega) hltz
      subst e
      have hx := pw_cell_below HS.out.below hxw
      rw [Int.toNat_natCast] at hx
      obtain ⟨row, hrw⟩ : ∃ q, q = rd_L1 m (i : Int) := ⟨_, rfl⟩
      rw [← hrw] at hx hl hiw
      have hrow := HM.out.2.1 m[i] (List.getElem_mem hlt)
      rw [← rows_eq m i hlt, ← hrw] at hrow
      have h9 := hrow.2.1
      have HX9 := Aside0.mk hrow.2.2
      have CR := Aside0.mk hiw
      have E1 : Aside0 (out ++ rowPairs i (row.drop 0) 0 ++ matPairs (m.drop (i + 1)) (i + 1) = matPairs m 0) := ⟨by rw [← HE.out, matPairs_drop m i hlt, List.drop_zero, ← rows_eq m i hlt, ← hrw, List.append_assoc]⟩
      have hL0 := HL.out
      have HL0 := Aside0.mk (show out.length ≤ 81 * i + 9 * 0 by omega)
      clear hxw hrw hrow hiw HE HL hL0
      go_wp2
      go_loopg [3, 18] row.length (fun kq v3 v18 wr => ∃ (j : Nat) (out : List (Int × Int)) (ok : Nat → Prop), j ≤ row.length ∧ row.length - j ≤ kq ∧ v18 = .int .i64 (j : Int) ∧ Aside0 (out ++ rowPairs i (row.drop j) j ++ matPairs (m.drop (i + 1)) (i + 1) = matPairs m 0) ∧ Aside0 (out.length ≤ 81 * i + 9 * j) ∧ Aside0 (St w wr [obR pairKd 59 w ok v3 out]))
      case atStart => exact ⟨0, out, ok, Nat.zero_le _, by omega, rfl, E1, HL0, HS⟩
      case round =>
        clear hx E1 HL0 HS
        obtain ⟨j, out, ok, hj, hg2, rfl, HE, HL, HS⟩ := hrel
        by_cases hlt2 : j < row.length
        · have hltz2 : (j : Int) < (row.length : Int) := by omega
          obtain ⟨ad2, e, hxw⟩ := Kd.at_int CR.out (j : Int) (by omega) hltz2
          subst e
          have hx := pw_cell_below HS.out.below hxw
          rw [Int.toNat_natCast] at hx
          have hb := HX9.out _ (rd_mem row j hlt2)
          obtain ⟨n, hn⟩ : ∃ n : Nat, rd row (j : Int) = (n : Int) := ⟨(rd row (j : Int)).toNat, by omega⟩
          rw [hn] at hx hb
          have hn9 : n ≤ 9 := by omega
          have E2 : Aside0 (out ++ List.replicate n ((i : Int) + 1, (j : Int) + 1) ++ rowPairs i (row.drop (j + 1)) (j + 1) ++ matPairs (m.drop (i + 1)) (i + 1) = matPairs m 0) := ⟨by
            rw [← HE.out, rowPairs_drop i row j hlt2, hn, Int.toNat_natCast, Int.natCast_add, Int.natCast_add, Int.natCast_one]
            simp only [List.append_assoc]⟩
          have hll : out.length ≤ 1000 := by have := HL.out; omega
          have HLL := Aside0.mk hll
          clear hxw hn hb HE hll
          go_wp2_with (first
            | ((with_reducible refine gate_dst (N := 29) rfl ?_); refine lit_event (N := 29) rfl rfl (cs := #[.int .i64 ((i : Int) + 1), .int .i64 ((j : Int) + 1)]) (t := 59) (n := 1) ?hr ?_; (case hr => first | (go_simp; done) | (go_simp; rfl)); intro b4 hb4 w4 hx4 hl4; have H4 := Aside0.mk (St.addB HS.out hx4 hb4 hl4); clear hx4 hl4 hb4)
            | (go_at_call 72; (with_reducible refine (repeat_calls b4 ((i : Int) + 1) ((j : Int) + 1) n _ hn9 (St.heapB H4.out 0 rfl)).mono ?_); rintro e w5 ⟨g5, rfl, hx5, hg5, hl5⟩; have H5 := Aside0.mk (St.addB H4.out hx5 hg5 hl5); clear hx5 hg5 hl5)
            | (at_builtin; refine St.putRows rfl (.tmp 23) (.tmp 31) rfl H5.out 2 rfl rfl rfl (rep_C (St.heapB H5.out 0 rfl) hn9) (by have := HLL.out; omega) ?_; intro v6 w6 ok6 h_; have H6 := Aside0.mk (St.less h_ (.cons _ (.cons _ (.cons_cons _ .slnil)))); clear h_))
          go_roundg (row.length - (j + 1))
          case measure => omega
          case rel => exact ⟨j + 1, _, ok6, by omega, by omega, by go_num, E2, ⟨by rw [List.length_append, List.length_replicate]; have := HL.out; omega⟩, H6⟩
        · have hj2 : j = row.length := by omega
          subst hj2
          have hltz2 : ¬ (row.length : Int) < (row.length : Int) := by omega
          have E3 : Aside0 (out ++ matPairs (m.drop (i + 1)) (i + 1) = matPairs m 0) := ⟨by
            have := HE.out
            rwa [List.drop_length, rowPairs, List.append_nil] at this⟩
          clear HE hlt2
          go_wp2
          go_roundg (m.length - (i + 1))
          case measure => omega
          case rel => exact ⟨i + 1, out, ok, by omega, by omega, by go_num, E3, ⟨by have := HL.out; omega⟩, HS⟩
    · have hi2 : i = m.length := by omega
      subst hi2
      have hltz : ¬ (m.length : Int) < (m.length : Int) := by omega
      have E4 := HE.out
      rw [List.drop_length, matPairs, List.append_nil] at E4
      have E5 := Aside0.mk E4
      clear E4 HE hlt
      go_wp2
      go_ret
      refine ⟨_, rfl, ?_, HS.out.below⟩
      rw [← E5.out]
      exact Kd.R_mono (HS.out.get 0 rfl) (fun _ _ => trivial)
end Go.Proofs.Ytekjnjejgefbhaa.Q
