/- The walk of wordOf, both ways: the word of the first and of the second numbers of a matrix's pairs; no condition. -/
import Derived.Test.YtekjnjejgefbhaaF0
import Derived.Test.YtekjnjejgefbhaaF3
import Derived.Test.YtekjnjejgefbhaaQBase
import Derived.Test.YtekjnjejgefbhaaQRows
import Derived.Test.YtekjnjejgefbhaaQMatrix
import Derived.Test.YtekjnjejgefbhaaQMatWord
import Derived.Test.YtekjnjejgefbhaaQKeep
import Derived.Test.YtekjnjejgefbhaaQSteps
import Derived.Test.YtekjnjejgefbhaaQBoxes
import Derived.Test.YtekjnjejgefbhaaQRepeat
import Derived.Test.YtekjnjejgefbhaaQPairsWalk
import Derived.IntWalk
set_option linter.unusedVariables false
set_option linter.unusedSimpArgs false
namespace Go.Proofs.Ytekjnjejgefbhaa.Q
open Go.RowKit Go.Proofs.Ytekjnjejgefbhaa.F Go.Proofs.YtekjnjejgefbhaaW.PrintWords Go.Proofs.YtekjnjejgefbhaaW.PrintLast Go.Proofs.YtekjnjejgefbhaaW.PrintMore
section
variable {ops : Array Oper} {rest : List Oper} {oi : Oper} {a : Act} {Q : Exit → Act → World → Prop} {w W : World} {L : List Ob} {v : Value} {m : List (List Int)}
theorem St.litI {N : Tmp} (hgd : oi.guard = none) (hd : oi.dst = some N) (hrun : (execOp a.eval oi).run Try.prog W = .ok (.value (.slice (some ⟨W.heap.size, 0, none⟩) 0 0)) (W.alloc (.cells #[] 3))) (h : St w W L)
    (hk : ∀ v1 w1 ok1, St w w1 (obR (Kd.int .i64) 3 w ok1 v1 [] :: L) → wpList Try.prog ops Q rest (a.put oi.dst v1) w1) : wpList Try.prog ops Q (oi :: rest) a W := by
  refine Kd.R_lit (Kd.int .i64) (w0 := W) W.heap.size 3 hgd hd (xs := []) (inner := []) (ok := fun _ => True) (okp := fun _ => False) hrun (Reps.none _ _) (fun _ h => h.elim) trivial (Below.refl _ _) (Nat.le_refl _) (by simp) ?_
  intro v1 w1 hR hB _ _
  obtain ⟨ok1, h1⟩ := h.addR hB hR
  exact hk v1 w1 ok1 h1
theorem isMat_st {b : Bool} (h : St w W L) (hr : Reads (Kd.slice 3 (Kd.int .i64)) W v m) (hb : decide (IsMat m) = b) :
    Calls Try.prog 21 #[v] W fun e W' => e = .returned (.bool b) ∧ St w W' L := by
  obtain ⟨A, c, rfl, hc, hC⟩ := hr
  obtain ⟨K, hK⟩ := ev_eq (impl_IsMatrix_ev m) hb
  refine (impl_IsMatrix.calls K A c m b W hC hc (hK K (Nat.le_refl _))).mono ?_
  rintro e W' ⟨rfl, hd⟩
  exact ⟨rfl, h.drawn hd⟩
theorem pairsOf_st (h : St w W L) (hr : Reads (Kd.slice 3 (Kd.int .i64)) W v m) (hM : IsMat m) {X : List (Int × Int)} (hX : matPairs m 0 = X) :
    Calls Try.prog 68 #[v] W fun e W' => ∃ u ok, e = .returned u ∧ St w W' (obR pairKd 59 w ok u X :: L) := by
  subst hX
  obtain ⟨A, c, rfl, hc, hC⟩ := hr
  refine (pairsOf_calls A c m W hC hc hM).mono ?_
  rintro e W' ⟨u, rfl, hR, hB⟩
  obtain ⟨ok, h1⟩ := h.addR hB hR
  exact ⟨u, ok, rfl, h1⟩
end
theorem pair_cells {W : World} {A : Option Addr} {n : Nat} {X : List (Int × Int)} (h : Kd.C pairKd W A n X) (j : Nat) (hj : j < X.length) : ∃ ad, A = some ad ∧ W.cell? (ad.add (j * 2)) = some (.int .i64 X[j].1) ∧ W.cell? (ad.add (j * 2 + 1)) = some (.int .i64 X[j].2) := by
  obtain ⟨hl, _, h2⟩ := h
  obtain ⟨ad, e, h3⟩ := h2 (by omega)
  obtain ⟨cs, _, hcs, h4⟩ := h3 j X[j] (List.getElem?_eq_getElem hj)
  obtain rfl : cs = [.int .i64 X[j].1, .int .i64 X[j].2] := hcs
  exact ⟨ad, e, h4 0 _ rfl, h4 1 _ rfl⟩
set_option maxHeartbeats 8000000 in
set_option maxRecDepth 100000 in
theorem wordOf_callsT (A0 : Option Addr) (c0 : Nat) (m : List (List Int)) (w : World) (hr0 : Kd.C (Kd.slice 3 (Kd.int .i64)) w A0 m.length m) (hc0 : m.length ≤ c0) :
    Calls Try.prog 59 #[.slice A0 m.length c0, .int .i64 0] w fun e w' => ∃ v, e = .returned v ∧ Kd.R (Kd.int .i64) 3 w' w.heap.size (fun _ => True) v (matWord true m) ∧ Below w.heap.size w w' := by
  have C0 := Aside0.mk hr0
  have H0 := Aside0.mk (St.start w)
  clear hr0
  by_cases hM : IsMat m
  case neg =>
    have HD := Aside0.mk (decide_eq_false hM)
    have HE := Aside0.mk (show matWord true m = [] by unfold matWord; rw [if_neg hM])
    clear hM
    go_enter Try.func59, Try.ntmps59
    go_wp2_with (go_at_call 21; (with_reducible refine (isMat_st H0.out (H0.out.came C0.out hc0) HD.out).mono ?_); rintro e w1 ⟨rfl, h_⟩; have H1 := Aside0.mk h_; clear h_)
    go_ret
    refine ⟨_, rfl, ?_, H1.out.below⟩
    rw [HE.out]
    exact Kd.R_nil _ _ _ _ _
  have HD := Aside0.mk (decide_eq_true hM)
  have HM := Aside0.mk hM
  obtain ⟨X, hX⟩ : ∃ X, matPairs m 0 = X := ⟨_, rfl⟩
  have HE := Aside0.mk (show matWord true m = selW true X by unfold matWord; rw [if_pos hM, hX])
  have hXl : X.length ≤ 1000 := by
    have h1 := matPairs_bd m 0 (fun r hr => ⟨(hM.2.1 r hr).2.1, fun x hx => ((hM.2.1 r hr).2.2 x hx).2⟩)
    have := hM.1
    rw [← hX]
    omega
  have HX := Aside0.mk hX
  clear hM hX
  go_enter Try.func59, Try.ntmps59
  go_wp2_with (first
    | (go_at_call 21; (with_reducible refine (isMat_st H0.out (H0.out.came C0.out hc0) HD.out).mono ?_); rintro e w1 ⟨rfl, h_⟩; have H1 := Aside0.mk h_; clear h_)
    | ((with_reducible refine gate_dst (N := 11) rfl ?_); refine St.litI (N := 11) rfl rfl ?hr H1.out ?_; (case hr => first | (go_simp; done) | (go_simp; rfl)); intro v2 w2 ok2 h_; have H2 := Aside0.mk h_; clear h_)
    | (go_at_call 68; (with_reducible refine (pairsOf_st H2.out (H2.out.came C0.out hc0) HM.out HX.out).mono ?_); rintro e w3 ⟨v3, ok3, rfl, h_⟩; have H3 := Aside0.mk h_; clear h_; obtain ⟨Ap, cp, rfl, _, _⟩ := H3.out.readR 0 rfl))
  go_loopg [5, 15] X.length (fun kq v5 v15 wr => ∃ (j : Nat) (ok okp : Nat → Prop), j ≤ X.length ∧ X.length - j ≤ kq ∧ v15 = .int .i64 (j : Int) ∧ Aside0 (St w wr [obR pairKd 59 w okp (.slice Ap X.length cp) X, obR (Kd.int .i64) 3 w ok v5 (selW true (X.take j))]))
  case atStart => exact ⟨0, ok2, ok3, Nat.zero_le _, by omega, rfl, ⟨by rw [List.take_zero]; exact H3.out⟩⟩
  case round =>
    clear H0 H1 H2 H3
    obtain ⟨j, ok, okp, hj, hg, rfl, HS⟩ := hrel
    by_cases hlt : j < X.length
    · have hltz : (j : Int) < (X.length : Int) := by omega
      obtain ⟨ad, e, hx, hy⟩ := pair_cells (Reads.C (HS.out.readR 0 rfl)).2 j hlt
      obtain ⟨g, c2, e0, _⟩ := Kd.R_form (HS.out.get 0 rfl) (by omega)
      injection e0 with ea e1_ e2_
      clear e1_ e2_
      subst ea
      injection e with e
      subst e
      rw [add_at, Nat.zero_add] at hx hy
      obtain ⟨p, hp⟩ : ∃ p, p = X[j] := ⟨_, rfl⟩
      rw [← hp] at hx hy
      obtain ⟨px, py⟩ := p
      have hE : selW true (X.take j) ++ [px] = selW true (X.take (j + 1)) := by rw [List.take_succ_eq_append_getElem hlt, selW_append, ← hp]; rfl
      have HE2 := Aside0.mk hE
      have hlen : (selW true (X.take j)).length ≤ 1000 := by unfold selW; rw [List.length_map, List.length_take]; omega
      have HLEN := Aside0.mk hlen
      simp only at hx hy
      clear hE hp hlen
      go_wp2_with (first
        | ((with_reducible refine gate_dst (N := 7) rfl ?_); refine zX (N := 7) (cs := #[.int .i64 0, .int .i64 0]) (t := 59) ?_; intro b7 hb7 wb7 hxb7 hlb7; have H7 := Aside0.mk (St.addB HS.out hxb7 hb7 hlb7); have z0 : wb7.cell? ⟨b7, 0, none⟩ = some (.int .i64 0) := St.cellB H7.out 0 rfl 0 rfl; have z1 : wb7.cell? ⟨b7, 1, none⟩ = some (.int .i64 0) := St.cellB H7.out 0 rfl 1 rfl; have f0 := blk_frozen (St.heapB H7.out 0 rfl) 0; have f1 := blk_frozen (St.heapB H7.out 0 rfl) 1; have H8 := Aside0.mk (St.putB (St.putB H7.out 0 rfl 0 (.int .i64 px) rfl) 0 rfl 1 (.int .i64 py) rfl); clear hxb7 hb7 hlb7)
        | (at_builtin; refine St.put1 (x := px) (bb := 0) (c := 0) rfl (.tmp 19) (.tmp 23) rfl H8.out 2 rfl rfl ?sX (by have := HLEN.out; omega) ?_; (case sX => (have e_ : ((wb7.setCell ⟨b7, 0, none⟩ (.int .i64 px)).setCell ⟨b7, 1, none⟩ (.int .i64 py)).heap.size = wb7.heap.size := (by simp [World.setCell]); rw [e_]; rfl)); intro v9 w9 ok9 h_; have H9 := Aside0.mk (St.less h_ (.cons _ (.cons_cons _ (.cons_cons _ .slnil)))); clear h_))
      go_roundg (X.length - (j + 1))
      case measure => omega
      case rel => exact ⟨j + 1, ok9, okp, by omega, by omega, by go_num, ⟨by rw [← HE2.out]; exact H9.out⟩⟩
    · have hj2 : j = X.length := by omega
      subst hj2
      have hltz : ¬ (X.length : Int) < (X.length : Int) := by omega
      go_wp2
      go_ret
      refine ⟨_, rfl, ?_, HS.out.below⟩
      rw [HE.out]
      have := HS.out.get 1 rfl
      rw [List.take_length] at this
      exact Kd.R_mono this (fun _ _ => trivial)
set_option maxHeartbeats 8000000 in
set_option maxRecDepth 100000 in
theorem wordOf_callsB (A0 : Option Addr) (c0 : Nat) (m : List (List Int)) (w : World) (hr0 : Kd.C (Kd.slice 3 (Kd.int .i64)) w A0 m.length m) (hc0 : m.length ≤ c0) :
    Calls Try.prog 59 #[.slice A0 m.length c0, .int .i64 1] w fun e w' => ∃ v, e = .returned v ∧ Kd.R (Kd.int .i64) 3 w' w.heap.size (fun _ => True) v (matWord false m) ∧ Below w.heap.size w w' := by
  have C0 := Aside0.mk hr0
  have H0 := Aside0.mk (St.start w)
  clear hr0
  by_cases hM : IsMat m
  case neg =>
    have HD := Aside0.mk (decide_eq_false hM)
    have HE := Aside0.mk (show matWord false m = [] by unfold matWord; rw [if_neg hM])
    clear hM
    go_enter Try.func59, Try.ntmps59
    go_wp2_with (go_at_call 21; (with_reducible refine (isMat_st H0.out (H0.out.came C0.out hc0) HD.out).mono ?_); rintro e w1 ⟨rfl, h_⟩; have H1 := Aside0.mk h_; clear h_)
    go_ret
    refine ⟨_, rfl, ?_, H1.out.below⟩
    rw [HE.out]
    exact Kd.R_nil _ _ _ _ _
  have HD := Aside0.mk (decide_eq_true hM)
  have HM := Aside0.mk hM
  obtain ⟨X, hX⟩ : ∃ X, matPairs m 0 = X := ⟨_, rfl⟩
  have HE := Aside0.mk (show matWord false m = selW false X by unfold matWord; rw [if_pos hM, hX])
  have hXl : X.length ≤ 1000 := by
    have h1 := matPairs_bd m 0 (fun r hr => ⟨(hM.2.1 r hr).2.1, fun x hx => ((hM.2.1 r hr).2.2 x hx).2⟩)
    have := hM.1
    rw [← hX]
    omega
  have HX := Aside0.mk hX
  clear hM hX
  go_enter Try.func59, Try.ntmps59
  go_wp2_with (first
    | (go_at_call 21; (with_reducible refine (isMat_st H0.out (H0.out.came C0.out hc0) HD.out).mono ?_); rintro e w1 ⟨rfl, h_⟩; have H1 := Aside0.mk h_; clear h_)
    | ((with_reducible refine gate_dst (N := 11) rfl ?_); refine St.litI (N := 11) rfl rfl ?hr H1.out ?_; (case hr => first | (go_simp; done) | (go_simp; rfl)); intro v2 w2 ok2 h_; have H2 := Aside0.mk h_; clear h_)
    | (go_at_call 68; (with_reducible refine (pairsOf_st H2.out (H2.out.came C0.out hc0) HM.out HX.out).mono ?_); rintro e w3 ⟨v3, ok3, rfl, h_⟩; have H3 := Aside0.mk h_; clear h_; obtain ⟨Ap, cp, rfl, _, _⟩ := H3.out.readR 0 rfl))
  go_loopg [5, 15] X.length (fun kq v5 v15 wr => ∃ (j : Nat) (ok okp : Nat → Prop), j ≤ X.length ∧ X.length - j ≤ kq ∧ v15 = .int .i64 (j : Int) ∧ Aside0 (St w wr [obR pairKd 59 w okp (.slice Ap X.length cp) X, obR (Kd.int .i64) 3 w ok v5 (selW false (X.take j))]))
  case atStart => exact ⟨0, ok2, ok3, Nat.zero_le _, by omega, rfl, ⟨by rw [List.take_zero]; exact H3.out⟩⟩
  case round =>
    clear H0 H1 H2 H3
    obtain ⟨j, ok, okp, hj, hg, rfl, HS⟩ := hrel
    by_cases hlt : j < X.length
    · have hltz : (j : Int) < (X.length : Int) := by omega
      obtain ⟨ad, e, hx, hy⟩ := pair_cells (Reads.C (HS.out.readR 0 rfl)).2 j hlt
      obtain ⟨g, c2, e0, _⟩ := Kd.R_form (HS.out.get 0 rfl) (by omega)
      injection e0 with ea e1_ e2_
      clear e1_ e2_
      subst ea
      injection e with e
      subst e
      rw [add_at, Nat.zero_add] at hx hy
      obtain ⟨p, hp⟩ : ∃ p, p = X[j] := ⟨_, rfl⟩
      rw [← hp] at hx hy
      obtain ⟨px, py⟩ := p
      have hE : selW false (X.take j) ++ [py] = selW false (X.take (j + 1)) := by rw [List.take_succ_eq_append_getElem hlt, selW_append, ← hp]; rfl
      have HE2 := Aside0.mk hE
      have hlen : (selW false (X.take j)).length ≤ 1000 := by unfold selW; rw [List.length_map, List.length_take]; omega
      have HLEN := Aside0.mk hlen
      simp only at hx hy
      clear hE hp hlen
      go_wp2_with (first
        | ((with_reducible refine gate_dst (N := 7) rfl ?_); refine zX (N := 7) (cs := #[.int .i64 0, .int .i64 0]) (t := 59) ?_; intro b7 hb7 wb7 hxb7 hlb7; have H7 := Aside0.mk (St.addB HS.out hxb7 hb7 hlb7); have z0 : wb7.cell? ⟨b7, 0, none⟩ = some (.int .i64 0) := St.cellB H7.out 0 rfl 0 rfl; have z1 : wb7.cell? ⟨b7, 1, none⟩ = some (.int .i64 0) := St.cellB H7.out 0 rfl 1 rfl; have f0 := blk_frozen (St.heapB H7.out 0 rfl) 0; have f1 := blk_frozen (St.heapB H7.out 0 rfl) 1; have H8 := Aside0.mk (St.putB (St.putB H7.out 0 rfl 0 (.int .i64 px) rfl) 0 rfl 1 (.int .i64 py) rfl); clear hxb7 hb7 hlb7)
        | (at_builtin; refine St.put1 (x := py) (bb := 0) (c := 0) rfl (.tmp 19) (.tmp 23) rfl H8.out 2 rfl rfl ?sX (by have := HLEN.out; omega) ?_; (case sX => (have e_ : ((wb7.setCell ⟨b7, 0, none⟩ (.int .i64 px)).setCell ⟨b7, 1, none⟩ (.int .i64 py)).heap.size = wb7.heap.size := (by simp [World.setCell]); rw [e_]; rfl)); intro v9 w9 ok9 h_; have H9 := Aside0.mk (St.less h_ (.cons _ (.cons_cons _ (.cons_cons _ .slnil)))); clear h_))
      go_roundg (X.length - (j + 1))
      case measure => omega
      case rel => exact ⟨j + 1, ok9, okp, by omega, by omega, by go_num, ⟨by rw [← HE2.out]; exact H9.out⟩⟩
    · have hj2 : j = X.length := by omega
      subst hj2
      have hltz : ¬ (X.length : Int) < (X.length : Int) := by omega
      go_wp2
      go_ret
      refine ⟨_, rfl, ?_, HS.out.below⟩
      rw [HE.out]
      have := HS.out.get 1 rfl
      rw [List.take_length] at this
      exact Kd.R_mono this (fun _ _ => trivial)
end Go.Proofs.Ytekjnjejgefbhaa.Q
