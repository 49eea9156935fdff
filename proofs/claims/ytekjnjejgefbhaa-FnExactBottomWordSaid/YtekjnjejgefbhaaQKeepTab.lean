/- The law's helpers on tableaux, over what the law holds; condition: at most 2^59 numbers. -/
import Derived.Test.YtekjnjejgefbhaaF0
import Derived.Test.YtekjnjejgefbhaaF1
import Derived.Test.YtekjnjejgefbhaaF8
import Derived.Test.YtekjnjejgefbhaaF9
import Derived.Test.YtekjnjejgefbhaaQBase
import Derived.Test.YtekjnjejgefbhaaQLawInts
import Derived.Test.YtekjnjejgefbhaaQLawRows
import Derived.Test.YtekjnjejgefbhaaQMark
import Derived.Test.YtekjnjejgefbhaaQMarkRows
import Derived.Test.YtekjnjejgefbhaaQKeep
import Derived.Test.YtekjnjejgefbhaaQKeepInts
import Derived.Test.YtekjnjejgefbhaaQKeepRows
set_option linter.unusedVariables false
set_option linter.unusedSimpArgs false
namespace Go.Proofs.Ytekjnjejgefbhaa.Q
open Go.RowKit Go.Proofs.Ytekjnjejgefbhaa.F Go.Proofs.YtekjnjejgefbhaaW.PrintWords Go.Proofs.YtekjnjejgefbhaaW.PrintLast Go.Proofs.YtekjnjejgefbhaaW.PrintMore
section
variable {w W : World} {L L' : List Ob} {o : Ob} {ok ok' : Nat → Prop} {v0 v1 u0 u1 : Value} {n : List Int} {m : List (List Int)}
theorem St.drop (h : St w W (o :: L)) : St w W L := ⟨h.below, fun p hp => h.own p (List.mem_cons_of_mem _ hp), (List.pairwise_cons.1 h.apart).2⟩
/-- a variable in memory -/
def obB (b : Nat) (cs : Array Value) (t : Nat) : Ob := ⟨fun k => k = b, fun W => W.heap[b]? = some (.cells cs t (0, 0))⟩
theorem firmB {b : Nat} {cs : Array Value} {t : Nat} : Firm (obB b cs t) := fun _ _ h hm => (hm b rfl (blk_lt h)).trans h
theorem St.cellB (h : St w W L) {b t : Nat} {cs : Array Value} (i : Nat) (hi : L[i]? = some (obB b cs t)) (j : Nat) {v : Value} (hv : cs[j]? = some v) : W.cell? ⟨b, j, none⟩ = some v := (blk_cell (show W.heap[b]? = some (.cells cs t (0, 0)) from h.get i hi) j).trans hv
theorem St.box (h : St w W L) (cs : Array Value) (t : Nat) : St w (W.alloc (.cells cs t (0, 0))) (obB W.heap.size cs t :: L) := by
  have e1 : (W.alloc (.cells cs t (0, 0))).heap.size = W.heap.size + 1 := by show (W.heap.push _).size = _; exact Array.size_push ..
  refine h.add (o := obB W.heap.size cs t) (below_alloc (Below.refl _ _) _) (fun k hk => ?_) ?_ firmB
  · have h1 : k = W.heap.size := hk
    omega
  · show (W.heap.push _)[W.heap.size]? = _
    exact Array.getElem?_push_size
theorem eqTableau_st_same (h : St w W L) (h0 : Reads (Kd.int .i64) W v0 n) (h1 : Reads (Kd.slice 3 (Kd.int .i64)) W v1 m) (h2 : Reads (Kd.int .i64) W u0 n) (h3 : Reads (Kd.slice 3 (Kd.int .i64)) W u1 m)
    (hn : n.length ≤ 1152921504606846976) (hm : m.length ≤ 1152921504606846976) (hb : ∀ r ∈ m, r.length ≤ 1152921504606846976) :
    Calls Try.prog 39 #[.agg #[v0, v1], .agg #[u0, u1]] W fun e W' => e = .returned (.bool true) ∧ St w W' L := by
  obtain ⟨A0, c0, rfl, hc0, hC0⟩ := h0
  obtain ⟨A1, c1, rfl, hc1, hC1⟩ := h1
  obtain ⟨A2, c2, rfl, hc2, hC2⟩ := h2
  obtain ⟨A3, c3, rfl, hc3, hC3⟩ := h3
  have hE : Ev (fun k => laws_eqTableau.f k n m n m) true := by
    unfold laws_eqTableau.f
    exact Ev.bind (eqIntS_ev n n hn) (ev_pos (by simp) (Ev.bind (eqIntSS_ev m m hm hb) (ev_pos (by simp) (ev_val rfl))))
  obtain ⟨K, hK⟩ := hE
  refine (laws_eqTableau.calls K A0 c0 n A1 c1 m A2 c2 n A3 c3 m true W hC0 hc0 hC1 hc1 hC2 hc2 hC3 hc3 (hK K (Nat.le_refl _))).mono ?_
  rintro e W' ⟨rfl, hd⟩
  exact ⟨rfl, h.quiet hd⟩
theorem heldTableau_st (h : St w W L) (a : Nat) (m : List (List Int)) (q : Nat) (h0 : Reads (Kd.int .i64) W v0 (marks q a)) (h1 : Reads (Kd.slice 3 (Kd.int .i64)) W v1 (rowMarks (q + a) m))
    (hq : q ≤ 576460752303423488) (hn : a ≤ 576460752303423488) (hm : m.length ≤ 576460752303423488) (hb : bulk m ≤ 576460752303423488) :
    Calls Try.prog 41 #[.agg #[v0, v1], .int .i64 (q : Int)] W fun e W' => e = .returned (.int .i64 ((q + a + bulk m : Nat) : Int)) ∧ St w W' L := by
  obtain ⟨A0, c0, rfl, hc0, hC0⟩ := h0
  obtain ⟨A1, c1, rfl, hc1, hC1⟩ := h1
  have hE : Ev (fun k => laws_heldTableau.f k (marks q a) (rowMarks (q + a) m) (q : Int)) ((q + a + bulk m : Nat) : Int) := by
    unfold laws_heldTableau.f
    exact Ev.bind (heldIntS_ev q a (by omega) (by omega)) (ev_neg (by omega) (Ev.bind (heldIntSS_ev m (q + a) (by omega) (by omega) (by omega)) (ev_neg (by omega) (ev_val rfl))))
  obtain ⟨K, hK⟩ := hE
  refine (laws_heldTableau.calls K A0 c0 _ A1 c1 _ (q : Int) _ W hC0 hc0 hC1 hc1 (hK K (Nat.le_refl _))).mono ?_
  rintro e W' ⟨rfl, hd⟩
  exact ⟨rfl, h.quiet hd⟩
set_option maxHeartbeats 4000000 in
set_option maxRecDepth 100000 in
theorem markTableau_st (h : St w W L) (i j : Nat) (hi : L[i]? = some (obR (Kd.int .i64) 3 w ok v0 n)) (hij : i ≠ j) (hj : L[j]? = some (obS (Kd.slice 3 (Kd.int .i64)) 22 w ok' v1 m)) (q : Nat)
    (hq : q ≤ 576460752303423488) (hn : n.length ≤ 576460752303423488) (hm : m.length ≤ 576460752303423488) (hb : bulk m ≤ 576460752303423488)
    (hL : (L.set i (obR (Kd.int .i64) 3 w ok v0 (marks q n.length))).set j (obS (Kd.slice 3 (Kd.int .i64)) 22 w ok' v1 (rowMarks (q + n.length) m)) = L') :
    Calls Try.prog 40 #[.agg #[v0, v1], .int .i64 (q : Int)] W fun e W' => e = .returned (.int .i64 ((q + n.length + bulk m : Nat) : Int)) ∧ St w W' L' := by
  obtain ⟨A0, c0, rfl, _, _⟩ := h.readR i hi
  obtain ⟨A1, c1, rfl, _, _⟩ := h.readS j hj
  have H0 := Aside0.mk h
  have HI := Aside0.mk hi
  have HJ := Aside0.mk hj
  have HF := Aside0.mk (And.intro hq (And.intro hn (And.intro hm hb)))
  clear h hi hj hq hn hm hb
  go_enter Try.func40, Try.ntmps40
  go_wp2_with (first
    | ((with_reducible refine gate_dst (N := 2) rfl ?_); refine box_event ?hg (N := 2) ?hd (cs := #[.slice A0 n.length c0, .slice A1 m.length c1]) (t := 40) ?hr ?_; (case hd => rfl); (case hg => rfl); (case hr => first | (go_simp; done) | (go_simp; rfl)); intro b hb w1 hx hl; have H1 := Aside0.mk (H0.out.add (o := obB b #[.slice A0 n.length c0, .slice A1 m.length c1] 40) hl (fun k hk => by have h1 : k = b := hk; have h2 := blk_lt hx; omega) hx firmB); have hc0 : w1.cell? ⟨b, 0, none⟩ = some (.slice A0 n.length c0) := (blk_cell hx 0).trans rfl; clear hx hl hb)
    | (go_at_call 16; refine (markIntS_st (L' := obB b #[.slice A0 n.length c0, .slice A1 m.length c1] 40 :: L.set i (obR (Kd.int .i64) 3 w ok (.slice A0 n.length c0) (marks q n.length))) H1.out (i + 1) HI.out q (by have := HF.out; omega) (by have := HF.out; omega) rfl).mono ?_; rintro e w2 ⟨rfl, h_⟩; have H2 := Aside0.mk h_; have hc1 : w2.cell? ⟨b, 1, none⟩ = some (.slice A1 m.length c1) := (blk_cell (show w2.heap[b]? = some (.cells #[.slice A0 n.length c0, .slice A1 m.length c1] 40 (0, 0)) from h_.get 0 rfl) 1).trans rfl; clear h_ H1 hc0)
    | (go_at_call 31; refine (markIntSS_st (L' := obB b #[.slice A0 n.length c0, .slice A1 m.length c1] 40 :: (L.set i (obR (Kd.int .i64) 3 w ok (.slice A0 n.length c0) (marks q n.length))).set j (obS (Kd.slice 3 (Kd.int .i64)) 22 w ok' (.slice A1 m.length c1) (rowMarks (q + n.length) m))) H2.out (j + 1) ((List.getElem?_set_ne hij).trans HJ.out) (q + n.length) (by have := HF.out; omega) (by have := HF.out; omega) (by have := HF.out; omega) rfl).mono ?_; rintro e w3 ⟨rfl, h_⟩; have H3 := Aside0.mk h_; clear h_ H2 hc1))
  go_ret
  exact ⟨rfl, hL ▸ H3.out.drop⟩
end
end Go.Proofs.Ytekjnjejgefbhaa.Q
