/- The walk of the law on SlideOut, over what the law holds; condition: the law's pure statement, told below. -/
import Derived.Test.YtljjjdgnpnnmoaaF7
import Derived.Test.YtljjjdgnpnnmoaaQAll
import Derived.Deep.DeepCutAuto
import Derived.IntWalk
set_option linter.unusedVariables false
set_option linter.unusedSimpArgs false
namespace Go.Proofs.Ytljjjdgnpnnmoaa.Walk
open Go.RowKit Go.Proofs.Ytljjjdgnpnnmoaa.F Go.Proofs.YtljjjdgnpnnmoaaW.PrintWords Go.Proofs.YtljjjdgnpnnmoaaW.PrintLast Go.Proofs.YtljjjdgnpnnmoaaW.PrintMore Go.Proofs.Ytljjjdgnpnnmoaa.Q
section
variable {w W : World} {L : List Ob} {v v0 v1 : Value} {n p : List Int} {m : List (List Int)}
theorem shapeOf_st {S1 S2 : List Int} {b : Bool} (h : St w W L) (h0 : Reads (Kd.int .i64) W v0 n) (h1 : Reads (Kd.slice 3 (Kd.int .i64)) W v1 m) (hn : n.length ≤ 1048576) (hm : m.length ≤ 1048576) (hb : bulk m ≤ 1048576) (hS : shapeOf n m = (S1, S2, b)) :
    Calls Try.prog 57 #[.agg #[v0, v1]] W fun e W' => ∃ u0 u1 ok0 ok1, e = .returned (.tuple #[.agg #[u0, u1], .bool b]) ∧ St w W' (obR (Kd.int .i64) 3 w ok0 u0 S1 :: obR (Kd.int .i64) 3 w ok1 u1 S2 :: L) := by
  obtain ⟨A0, c0, rfl, hc0, hC0⟩ := h0
  obtain ⟨A1, c1, rfl, hc1, hC1⟩ := h1
  obtain ⟨K, hK⟩ := ev_eq (impl_ShapeOf_ev n m hn hm (fun r hr => by have := bulk_mem hr; omega)) hS
  refine (impl_ShapeOf.calls K A0 c0 n A1 c1 m S1 S2 b W hC0 hc0 hC1 hc1 (hK K (Nat.le_refl _))).mono ?_
  rintro e W' ⟨u0, u1, rfl, hR, hR', hB⟩
  obtain ⟨ok0, ok1, h1⟩ := St.addRR rfl rfl h hB hR hR'
  exact ⟨u0, u1, ok0, ok1, rfl, h1⟩
theorem addBox_st {a : Int} {B : List Int} {b : Bool} (h : St w W L) (hr : Reads (Kd.int .i64) W v p) (hl : p.length ≤ 1048576) (hB : addBox p a = (B, b)) :
    Calls Try.prog 58 #[v, .int .i64 a] W fun e W' => ∃ u ok, e = .returned (.tuple #[u, .bool b]) ∧ St w W' (obR (Kd.int .i64) 3 w ok u B :: L) := by
  obtain ⟨A, c, rfl, hc, hC⟩ := hr
  obtain ⟨K, hK⟩ := ev_eq (impl_AddBox_ev p a hl) hB
  refine (impl_AddBox.calls K A c p a B b W hC hc (hK K (Nat.le_refl _))).mono ?_
  rintro e W' ⟨u, rfl, hR, hBl⟩
  obtain ⟨ok, h1⟩ := h.addR hBl hR
  exact ⟨u, ok, rfl, h1⟩
theorem isTab_st {b : Bool} (h : St w W L) (h0 : Reads (Kd.int .i64) W v0 n) (h1 : Reads (Kd.slice 3 (Kd.int .i64)) W v1 m) (hn : n.length ≤ 1048576) (hm : m.length ≤ 1048576) (hbk : bulk m ≤ 1048576) (hb : isTab n m = b) :
    Calls Try.prog 38 #[.agg #[v0, v1]] W fun e W' => e = .returned (.bool b) ∧ St w W' L := by
  obtain ⟨A0, c0, rfl, hc0, hC0⟩ := h0
  obtain ⟨A1, c1, rfl, hc1, hC1⟩ := h1
  obtain ⟨K, hK⟩ := ev_eq (impl_IsTableau_ev n m hn hm (fun r hr => by have := bulk_mem hr; omega)) hb
  refine (impl_IsTableau.calls K A0 c0 n A1 c1 m b W hC0 hc0 hC1 hc1 (hK K (Nat.le_refl _))).mono ?_
  rintro e W' ⟨rfl, hB⟩
  exact ⟨rfl, h.quiet hB⟩
theorem grid_st {G : List (List Int)} (h : St w W L) (h0 : Reads (Kd.int .i64) W v0 n) (h1 : Reads (Kd.slice 3 (Kd.int .i64)) W v1 m) (ht : isTab n m = true) (hG : gridOf n m = G) :
    Calls Try.prog 49 #[.agg #[v0, v1]] W fun e W' => ∃ u ok, e = .returned u ∧ St w W' (obS (Kd.slice 3 (Kd.int .i64)) 22 w ok u G :: L) := by
  subst hG
  obtain ⟨A0, c0, rfl, hc0, hC0⟩ := h0
  obtain ⟨A1, c1, rfl, hc1, hC1⟩ := h1
  obtain ⟨h9, hq, _⟩ := isTab_cells ht
  refine (grid_calls A0 c0 n A1 c1 m W hC0 hc0 hC1 hc1 (hasShape_bd (isTab_iff.1 ht).1).1 h9 hq).mono ?_
  rintro e W' ⟨u, rfl, hS, hB⟩
  obtain ⟨ok, h1⟩ := h.addS hB hS
  exact ⟨u, ok, rfl, h1⟩
theorem cell_st {G : List (List Int)} (h : St w W L) (hr : Reads (Kd.slice 3 (Kd.int .i64)) W v G) (i c x : Int) (hl : G.length ≤ 1048576) (hq : ∀ q ∈ G, q.length ≤ 1048576) (hx : cellOf G i c = x) :
    Calls Try.prog 50 #[v, .int .i64 i, .int .i64 c] W fun e W' => e = .returned (.int .i64 x) ∧ St w W' L := by
  subst hx
  obtain ⟨A, ca, rfl, hc, hC⟩ := hr
  refine (impl_cell.calls A ca G i c _ W hC hc (impl_cell_eq G i c hl hq)).mono ?_
  rintro e W' ⟨rfl, hd⟩
  exact ⟨rfl, h.drawn hd⟩
theorem ofGrid_st {A0 : Option Addr} {c0 : Nat} {G : List (List Int)} {P : List (List Int)} (h : St w W L) (h0 : Reads (Kd.int .i64) W (.slice A0 n.length c0) n) (hr : Reads (Kd.slice 3 (Kd.int .i64)) W v G) (hn : n.length ≤ 1000) (hG : G.length ≤ 10) (hq : ∀ q ∈ G, q.length ≤ 10)
    (hat : ∀ i : Nat, i < G.length → 0 < (rd_L1 G (i : Int)).length → 0 ≤ at0 n (i : Int) ∧ at0 n (i : Int) ≤ ((rd_L1 G (i : Int)).length : Int)) (hP : partRows n G 0 = P) :
    Calls Try.prog 51 #[.slice A0 n.length c0, v] W fun e W' => ∃ u ok, e = .returned (.agg #[.slice A0 n.length c0, u]) ∧ St w W' (obS (Kd.slice 3 (Kd.int .i64)) 22 w ok u P :: L) := by
  subst hP
  obtain ⟨A1, c1, rfl, hc1, hC1⟩ := hr
  obtain ⟨hc0, hC0⟩ := Reads.C h0
  refine (ofGrid_calls A0 c0 n A1 c1 G W hC0 hc0 hC1 hc1 hn hG hq hat).mono ?_
  rintro e W' ⟨u, rfl, hS, hB⟩
  obtain ⟨ok, h1⟩ := h.addS hB hS
  exact ⟨u, ok, rfl, h1⟩
end
theorem rows_all {G : List (List Int)} {b : Nat} (h : ∀ r : Nat, r < G.length → (rd_L1 G (r : Int)).length ≤ b) : ∀ q ∈ G, q.length ≤ b := by
  intro q hq
  obtain ⟨j, hj, rfl⟩ := List.mem_iff_getElem.1 hq
  have := h j hj
  rwa [rows_eq G j hj] at this
def impl_SlideOut.f (l0_0 : List Int) (l0_1 : List (List Int)) (a1 : Int) : Option (List Int × List (List Int) × Int × Bool) := if l0_0.length ≤ 1048576 ∧ l0_1.length ≤ 1048576 ∧ bulk l0_1 ≤ 1048576 then some (slideOutT l0_0 l0_1 a1) else none
set_option maxHeartbeats 16000000 in
set_option maxRecDepth 100000 in
theorem impl_SlideOut.calls (A0_0 : Option Addr) (c0_0 : Nat) (l0_0 : List Int) (A0_1 : Option Addr) (c0_1 : Nat) (l0_1 : List (List Int)) (a1 : Int) (r1 : List Int) (r2 : List (List Int)) (r3 : Int) (r4 : Bool) (w : World) (hr0_0 : Kd.C (Kd.int .i64) w A0_0 l0_0.length l0_0) (hc0_0 : l0_0.length ≤ c0_0) (hr0_1 : Kd.C (Kd.slice 3 (Kd.int .i64)) w A0_1 l0_1.length l0_1) (hc0_1 : l0_1.length ≤ c0_1) (h : impl_SlideOut.f l0_0 l0_1 a1 = some (r1, r2, r3, r4)) :
  Calls Try.prog 25 #[.agg #[.slice A0_0 l0_0.length c0_0, .slice A0_1 l0_1.length c0_1], .int .i64 a1] w fun e w' => ∃ v0_ v1_ : Value, e = .returned (.tuple #[.agg #[v0_, v1_], .int .i64 r3, .bool r4]) ∧ Kd.R (Kd.int .i64) 3 w' w.heap.size (fun _ => True) v0_ r1 ∧ Kd.S (Kd.slice 3 (Kd.int .i64)) 22 w' w.heap.size (fun k_ => some k_ ≠ (v0_ : Value).ownBlock) v1_ r2 ∧ Below w.heap.size w w' := by
  unfold impl_SlideOut.f at h
  by_cases hb : l0_0.length ≤ 1048576 ∧ l0_1.length ≤ 1048576 ∧ bulk l0_1 ≤ 1048576
  case neg => rw [if_neg hb] at h; cases h
  rw [if_pos hb] at h
  replace h := Option.some.inj h
  obtain ⟨hn, hm, hbk⟩ := hb
  have C0 := Aside0.mk hr0_0
  have C1 := Aside0.mk hr0_1
  have H0 := Aside0.mk (St.start w)
  have BK := Aside0.mk hbk
  clear hr0_0 hr0_1 hbk
  obtain ⟨S1, S2, sb, hS⟩ : ∃ x y z, shapeOf l0_0 l0_1 = (x, y, z) := ⟨_, _, _, rfl⟩
  obtain ⟨B1, bb, hB⟩ : ∃ x y, addBox S1 a1 = (x, y) := ⟨_, _, rfl⟩
  have hS1 : S1.length ≤ 1048576 := by
    have e : (shapeOf l0_0 l0_1).1 = S1 := by rw [hS]
    rw [← e]
    unfold shapeOf
    split
    · rw [outerOf_length]; exact hm
    · simp
  have HS := Aside0.mk hS
  have HB := Aside0.mk hB
  unfold slideOutT at h
  cases ht : isTab l0_0 l0_1 with
  | false =>
    rw [if_neg (fun g => by rw [ht] at g; cases g.1)] at h
    obtain ⟨rfl, rfl, rfl, rfl⟩ : r1 = [] ∧ r2 = [] ∧ r3 = 0 ∧ r4 = false := by simpa [eq_comm] using h
    have HT := Aside0.mk ht
    clear h ht hS hB
    go_enter Try.func25, Try.ntmps25
    go_wp2_with (first
      | ((with_reducible refine gate_dst (N := 2) rfl ?_); refine zX (N := 2) (cs := #[.slice A0_0 l0_0.length c0_0, .slice A0_1 l0_1.length c0_1]) (t := 28) ?_; intro b2 hb2 wb2 hxb2 hlb2; have H1 := Aside0.mk (St.addB H0.out hxb2 hb2 hlb2); clear hxb2 hlb2 hb2)
      | ((with_reducible refine gate_dst (N := 4) rfl ?_); refine zX (N := 4) (cs := #[.slice none 0 0, .slice none 0 0]) (t := 28) ?_; intro b4 hb4 wb4 hxb4 hlb4; have H2 := Aside0.mk (St.addB H1.out hxb4 hb4 hlb4); clear hxb4 hlb4 hb4; have z2_0 : wb4.cell? ⟨b2, 0, none⟩ = some (.slice A0_0 l0_0.length c0_0) := St.cellB H2.out 1 rfl 0 rfl; have z2_1 : wb4.cell? ⟨b2, 1, none⟩ = some (.slice A0_1 l0_1.length c0_1) := St.cellB H2.out 1 rfl 1 rfl)
      | (go_at_call 57; (with_reducible refine (shapeOf_st H2.out (H2.out.came C0.out hc0_0) (H2.out.came C1.out hc0_1) hn hm BK.out HS.out).mono ?_); rintro e w3 ⟨us1, us2, oks1, oks2, rfl, h_⟩; have H3 := Aside0.mk h_; clear h_; clear z2_0 z2_1; obtain ⟨As1, cs1, rfl, _, _⟩ := H3.out.readR 0 rfl; obtain ⟨As2, cs2, rfl, _, _⟩ := H3.out.readR 1 rfl)
      | ((with_reducible refine gate_dst (N := 7) rfl ?_); refine zX (N := 7) (cs := #[.slice none 0 0, .slice none 0 0]) (t := 61) ?_; intro b7 hb7 wb7 hxb7 hlb7; have H4 := Aside0.mk (St.addB H3.out hxb7 hb7 hlb7); clear hxb7 hlb7 hb7; have z7_0 : wb7.cell? ⟨b7, 0, none⟩ = some (.slice none 0 0) := St.cellB H4.out 0 rfl 0 rfl; have z7_1 : wb7.cell? ⟨b7, 1, none⟩ = some (.slice none 0 0) := St.cellB H4.out 0 rfl 1 rfl; have f7_0 := blk_frozen (St.heapB H4.out 0 rfl) 0; have f7_1 := blk_frozen (St.heapB H4.out 0 rfl) 1)
      | (go_at_call 58; (with_reducible refine (addBox_st (St.putB (St.putB H4.out 0 rfl 0 (.slice As1 S1.length cs1) rfl) 0 rfl 1 (.slice As2 S2.length cs2) rfl) ((St.putB (St.putB H4.out 0 rfl 0 (.slice As1 S1.length cs1) rfl) 0 rfl 1 (.slice As2 S2.length cs2) rfl).readR 1 rfl) hS1 HB.out).mono ?_); rintro e w5 ⟨ub, okb, rfl, h_⟩; have H5 := Aside0.mk h_; clear h_; clear z7_0 z7_1 f7_0 f7_1; obtain ⟨Ab, cb, rfl, _, _⟩ := H5.out.readR 0 rfl; have z2_0 : w5.cell? ⟨b2, 0, none⟩ = some (.slice A0_0 l0_0.length c0_0) := St.cellB H5.out 5 rfl 0 rfl; have z2_1 : w5.cell? ⟨b2, 1, none⟩ = some (.slice A0_1 l0_1.length c0_1) := St.cellB H5.out 5 rfl 1 rfl)
      | (go_at_call 38; (with_reducible refine (isTab_st H5.out (H5.out.came C0.out hc0_0) (H5.out.came C1.out hc0_1) hn hm BK.out HT.out).mono ?_); rintro e w6 ⟨rfl, h_⟩; have H6 := Aside0.mk h_; clear h_; clear z2_0 z2_1; have z4_0 : w6.cell? ⟨b4, 0, none⟩ = some (.slice none 0 0) := St.cellB H6.out 4 rfl 0 rfl; have z4_1 : w6.cell? ⟨b4, 1, none⟩ = some (.slice none 0 0) := St.cellB H6.out 4 rfl 1 rfl; have f4_0 := blk_frozen (St.heapB H6.out 4 rfl) 0; have f4_1 := blk_frozen (St.heapB H6.out 4 rfl) 1))
    have HZ9 := Aside0.mk (St.putB (St.putB H6.out 4 rfl 0 (.slice none 0 0) rfl) 4 rfl 1 (.slice none 0 0) rfl)
    refine bodyPost_ret (results_ctt rfl _ _ b4 28 #[.slice none 0 0, .slice none 0 0] (0, 0) _ rfl (St.heapB HZ9.out 4 rfl) Try.underlying28 rfl (by kernel_rfl)) rfl ?_
    exact ⟨_, _, rfl, Kd.R_nil _ _ _ _ _, Kd.S_nil _ _ _ _ _, HZ9.out.below⟩
  | true =>
  rw [show (addBox (shapeOf l0_0 l0_1).1 a1) = (B1, bb) by rw [hS]; exact hB] at h
  cases bb with
  | false =>
    rw [if_neg (fun g => by cases g.2)] at h
    obtain ⟨rfl, rfl, rfl, rfl⟩ : r1 = [] ∧ r2 = [] ∧ r3 = 0 ∧ r4 = false := by simpa [eq_comm] using h
    have HT := Aside0.mk ht
    clear h ht hS hB
    go_enter Try.func25, Try.ntmps25
    go_wp2_with (first
      | ((with_reducible refine gate_dst (N := 2) rfl ?_); refine zX (N := 2) (cs := #[.slice A0_0 l0_0.length c0_0, .slice A0_1 l0_1.length c0_1]) (t := 28) ?_; intro b2 hb2 wb2 hxb2 hlb2; have H1 := Aside0.mk (St.addB H0.out hxb2 hb2 hlb2); clear hxb2 hlb2 hb2)
      | ((with_reducible refine gate_dst (N := 4) rfl ?_); refine zX (N := 4) (cs := #[.slice none 0 0, .slice none 0 0]) (t := 28) ?_; intro b4 hb4 wb4 hxb4 hlb4; have H2 := Aside0.mk (St.addB H1.out hxb4 hb4 hlb4); clear hxb4 hlb4 hb4; have z2_0 : wb4.cell? ⟨b2, 0, none⟩ = some (.slice A0_0 l0_0.length c0_0) := St.cellB H2.out 1 rfl 0 rfl; have z2_1 : wb4.cell? ⟨b2, 1, none⟩ = some (.slice A0_1 l0_1.length c0_1) := St.cellB H2.out 1 rfl 1 rfl)
      | (go_at_call 57; (with_reducible refine (shapeOf_st H2.out (H2.out.came C0.out hc0_0) (H2.out.came C1.out hc0_1) hn hm BK.out HS.out).mono ?_); rintro e w3 ⟨us1, us2, oks1, oks2, rfl, h_⟩; have H3 := Aside0.mk h_; clear h_; clear z2_0 z2_1; obtain ⟨As1, cs1, rfl, _, _⟩ := H3.out.readR 0 rfl; obtain ⟨As2, cs2, rfl, _, _⟩ := H3.out.readR 1 rfl)
      | ((with_reducible refine gate_dst (N := 7) rfl ?_); refine zX (N := 7) (cs := #[.slice none 0 0, .slice none 0 0]) (t := 61) ?_; intro b7 hb7 wb7 hxb7 hlb7; have H4 := Aside0.mk (St.addB H3.out hxb7 hb7 hlb7); clear hxb7 hlb7 hb7; have z7_0 : wb7.cell? ⟨b7, 0, none⟩ = some (.slice none 0 0) := St.cellB H4.out 0 rfl 0 rfl; have z7_1 : wb7.cell? ⟨b7, 1, none⟩ = some (.slice none 0 0) := St.cellB H4.out 0 rfl 1 rfl; have f7_0 := blk_frozen (St.heapB H4.out 0 rfl) 0; have f7_1 := blk_frozen (St.heapB H4.out 0 rfl) 1)
      | (go_at_call 58; (with_reducible refine (addBox_st (St.putB (St.putB H4.out 0 rfl 0 (.slice As1 S1.length cs1) rfl) 0 rfl 1 (.slice As2 S2.length cs2) rfl) ((St.putB (St.putB H4.out 0 rfl 0 (.slice As1 S1.length cs1) rfl) 0 rfl 1 (.slice As2 S2.length cs2) rfl).readR 1 rfl) hS1 HB.out).mono ?_); rintro e w5 ⟨ub, okb, rfl, h_⟩; have H5 := Aside0.mk h_; clear h_; clear z7_0 z7_1 f7_0 f7_1; obtain ⟨Ab, cb, rfl, _, _⟩ := H5.out.readR 0 rfl; have z2_0 : w5.cell? ⟨b2, 0, none⟩ = some (.slice A0_0 l0_0.length c0_0) := St.cellB H5.out 5 rfl 0 rfl; have z2_1 : w5.cell? ⟨b2, 1, none⟩ = some (.slice A0_1 l0_1.length c0_1) := St.cellB H5.out 5 rfl 1 rfl)
      | (go_at_call 38; (with_reducible refine (isTab_st H5.out (H5.out.came C0.out hc0_0) (H5.out.came C1.out hc0_1) hn hm BK.out HT.out).mono ?_); rintro e w6 ⟨rfl, h_⟩; have H6 := Aside0.mk h_; clear h_; clear z2_0 z2_1; have z4_0 : w6.cell? ⟨b4, 0, none⟩ = some (.slice none 0 0) := St.cellB H6.out 4 rfl 0 rfl; have z4_1 : w6.cell? ⟨b4, 1, none⟩ = some (.slice none 0 0) := St.cellB H6.out 4 rfl 1 rfl; have f4_0 := blk_frozen (St.heapB H6.out 4 rfl) 0; have f4_1 := blk_frozen (St.heapB H6.out 4 rfl) 1))
    have HZ9 := Aside0.mk (St.putB (St.putB H6.out 4 rfl 0 (.slice none 0 0) rfl) 4 rfl 1 (.slice none 0 0) rfl)
    refine bodyPost_ret (results_ctt rfl _ _ b4 28 #[.slice none 0 0, .slice none 0 0] (0, 0) _ rfl (St.heapB HZ9.out 4 rfl) Try.underlying28 rfl (by kernel_rfl)) rfl ?_
    exact ⟨_, _, rfl, Kd.R_nil _ _ _ _ _, Kd.S_nil _ _ _ _ _, HZ9.out.below⟩
  | true =>
  rw [if_pos ⟨ht, rfl⟩] at h
  obtain ⟨i0, q0, rfl, hq0, him, hol, hI0, _, hf0⟩ := out_start ht (by rw [hS]; show (addBox S1 a1).2 = true; rw [hB])
  rw [show (addBox (shapeOf l0_0 l0_1).1 (i0 : Int)) = (B1, true) by rw [hS]; exact hB] at hq0 hol hI0
  simp only at h hq0 hol hI0
  rw [hq0] at h
  obtain ⟨h9, hq9, _⟩ := isTab_cells ht
  obtain ⟨G, hG⟩ : ∃ G, gridOf l0_0 l0_1 = G := ⟨_, rfl⟩
  have hGl : G.length = l0_1.length := by rw [← hG]; exact gridOf_length _ _
  rw [hG] at h hol hI0
  have hn9 := (isPartition_bd (hasShape_bd (isTab_iff.1 ht).1).1).2.1
  obtain ⟨H, hH⟩ : ∃ H, H = (if (i0 : Int) = (G.length : Int) then G ++ [[]] else G) := ⟨_, rfl⟩
  have HT := Aside0.mk ht
  have HG := Aside0.mk hG
  have HH := Aside0.mk h
  have HHD := Aside0.mk hH
  have HGL := Aside0.mk hGl
  have hG9 : G.length ≤ 9 := by omega
  have HI0 := Aside0.mk hI0
  have HQ0 := Aside0.mk hq0
  have HF0 := Aside0.mk hf0
  have HOL := Aside0.mk hol
  clear h ht hS hB hG hI0 hq9 hq0 hf0 hol hH hGl
  go_enter Try.func25, Try.ntmps25
  go_upto_if 43 with (first
    | ((with_reducible refine gate_dst (N := 2) rfl ?_); refine zX (N := 2) (cs := #[.slice A0_0 l0_0.length c0_0, .slice A0_1 l0_1.length c0_1]) (t := 28) ?_; intro b2 hb2 wb2 hxb2 hlb2; have H1 := Aside0.mk (St.addB H0.out hxb2 hb2 hlb2); clear hxb2 hlb2 hb2)
    | ((with_reducible refine gate_dst (N := 4) rfl ?_); refine zX (N := 4) (cs := #[.slice none 0 0, .slice none 0 0]) (t := 28) ?_; intro b4 hb4 wb4 hxb4 hlb4; have H2 := Aside0.mk (St.addB H1.out hxb4 hb4 hlb4); clear hxb4 hlb4 hb4; have z2_0 : wb4.cell? ⟨b2, 0, none⟩ = some (.slice A0_0 l0_0.length c0_0) := St.cellB H2.out 1 rfl 0 rfl; have z2_1 : wb4.cell? ⟨b2, 1, none⟩ = some (.slice A0_1 l0_1.length c0_1) := St.cellB H2.out 1 rfl 1 rfl)
    | (go_at_call 57; (with_reducible refine (shapeOf_st H2.out (H2.out.came C0.out hc0_0) (H2.out.came C1.out hc0_1) hn hm BK.out HS.out).mono ?_); rintro e w3 ⟨us1, us2, oks1, oks2, rfl, h_⟩; have H3 := Aside0.mk h_; clear h_; clear z2_0 z2_1; obtain ⟨As1, cs1, rfl, _, _⟩ := H3.out.readR 0 rfl; obtain ⟨As2, cs2, rfl, _, _⟩ := H3.out.readR 1 rfl)
    | ((with_reducible refine gate_dst (N := 7) rfl ?_); refine zX (N := 7) (cs := #[.slice none 0 0, .slice none 0 0]) (t := 61) ?_; intro b7 hb7 wb7 hxb7 hlb7; have H4 := Aside0.mk (St.addB H3.out hxb7 hb7 hlb7); clear hxb7 hlb7 hb7; have z7_0 : wb7.cell? ⟨b7, 0, none⟩ = some (.slice none 0 0) := St.cellB H4.out 0 rfl 0 rfl; have z7_1 : wb7.cell? ⟨b7, 1, none⟩ = some (.slice none 0 0) := St.cellB H4.out 0 rfl 1 rfl; have f7_0 := blk_frozen (St.heapB H4.out 0 rfl) 0; have f7_1 := blk_frozen (St.heapB H4.out 0 rfl) 1)
    | (go_at_call 58; (with_reducible refine (addBox_st (St.putB (St.putB H4.out 0 rfl 0 (.slice As1 S1.length cs1) rfl) 0 rfl 1 (.slice As2 S2.length cs2) rfl) ((St.putB (St.putB H4.out 0 rfl 0 (.slice As1 S1.length cs1) rfl) 0 rfl 1 (.slice As2 S2.length cs2) rfl).readR 1 rfl) hS1 HB.out).mono ?_); rintro e w5 ⟨ub, okb, rfl, h_⟩; have H5 := Aside0.mk h_; clear h_; clear z7_0 z7_1 f7_0 f7_1; obtain ⟨Ab, cb, rfl, _, _⟩ := H5.out.readR 0 rfl; have z2_0 : w5.cell? ⟨b2, 0, none⟩ = some (.slice A0_0 l0_0.length c0_0) := St.cellB H5.out 5 rfl 0 rfl; have z2_1 : w5.cell? ⟨b2, 1, none⟩ = some (.slice A0_1 l0_1.length c0_1) := St.cellB H5.out 5 rfl 1 rfl)
    | (go_at_call 38; (with_reducible refine (isTab_st H5.out (H5.out.came C0.out hc0_0) (H5.out.came C1.out hc0_1) hn hm BK.out HT.out).mono ?_); rintro e w6 ⟨rfl, h_⟩; have H6 := Aside0.mk h_; clear h_; clear z2_0 z2_1; have z2_0 : w6.cell? ⟨b2, 0, none⟩ = some (.slice A0_0 l0_0.length c0_0) := St.cellB H6.out 5 rfl 0 rfl; have z2_1 : w6.cell? ⟨b2, 1, none⟩ = some (.slice A0_1 l0_1.length c0_1) := St.cellB H6.out 5 rfl 1 rfl)
    | (go_at_call 49; (with_reducible refine (grid_st H6.out (H6.out.came C0.out hc0_0) (H6.out.came C1.out hc0_1) HT.out HG.out).mono ?_); rintro e w7 ⟨ug, okg, rfl, h_⟩; have H7 := Aside0.mk h_; clear h_; clear z2_0 z2_1; obtain ⟨Ag, cg, rfl, _, _⟩ := H7.out.readS 0 rfl))
  go_cut [11] (fun s11 wx => ∃ (ok okb' okx : Nat → Prop), St w wx [obS (Kd.slice 3 (Kd.int .i64)) 22 w ok s11 H, obR (Kd.int .i64) 3 w okb' (.slice Ab B1.length cb) B1, obB b4 #[.slice none 0 0, .slice none 0 0] 28, obB b2 #[.slice A0_0 l0_0.length c0_0, .slice A0_1 l0_1.length c0_1] 28])
  case first =>
    by_cases hrow : i0 = G.length
    · have hb : ((i0 : Int) == (G.length : Int)) = true := beq_iff_eq.mpr (by omega)
      obtain ⟨okn, hn7⟩ := St.addR H7.out (Below.refl _ _) (Kd.R_nil (Kd.int .i64) 3 _ _ (fun _ => True))
      have HN7 := Aside0.mk hn7
      have HHE := Aside0.mk (show H = G ++ [[]] by rw [HHD.out, if_pos (by omega)])
      clear hn7 hrow
      go_wp2_with (at_builtin; refine St.push (d := (Kd.slice 3 (Kd.int .i64))) (p := []) (cs := [.slice none 0 0]) rfl (.tmp 44) (.tmp 45) rfl Try.underlying23 (.slice none 0 0) 24 info22 rfl (by decide) (by omega) HN7.out rfl ?sX ⟨_, rfl, HN7.out.get 0 rfl⟩ (by omega) ?_; (case sX => rfl); intro v8 w8 ok8 h_; have H8 := Aside0.mk h_; clear h_)
      go_meet
      exact ⟨ok8, okb, okg, by rw [HHE.out]; exact St.less H8.out (.cons_cons _ (.cons_cons _ (.cons _ (.cons _ (.cons _ (.cons_cons _ (.cons_cons _ .slnil)))))))⟩
    · have hb : ((i0 : Int) == (G.length : Int)) = false := beq_eq_false_iff_ne.mpr (by omega)
      have HHE := Aside0.mk (show H = G by rw [HHD.out, if_neg (by omega)])
      clear hrow
      go_wp2
      go_meet
      exact ⟨okg, okb, okg, by rw [HHE.out]; exact St.less H7.out (.cons_cons _ (.cons_cons _ (.cons _ (.cons _ (.cons _ (.cons_cons _ (.cons_cons _ .slnil)))))))⟩
  obtain ⟨okh, okb2, _, hX⟩ := hcut
  have hst : startOut G (i0 : Int) = H.set i0 (rd_L1 H (i0 : Int) ++ [0]) := by unfold startOut; rw [← HHD.out, Int.toNat_natCast]
  have hHl : H.length = (startOut G (i0 : Int)).length := by rw [hst, List.length_set]
  have hi1 := HI0.out.i1
  have hHi : i0 < H.length := by omega
  obtain ⟨row, hrow⟩ : ∃ r, H[i0] = r := ⟨_, rfl⟩
  have hrr : rd_L1 H (i0 : Int) = row := by rw [rows_eq H i0 hHi]; exact hrow
  rw [hrr] at hst
  have hrl : row.length ≤ 9 := by
    have h1 := (HI0.out.row i0 hi1).2.2.1
    rw [hst, rows_set H i0 i0 _ hHi, if_pos rfl, List.length_append] at h1
    omega
  obtain ⟨g, ch, A1, k1, hv, hgb, hcg, hfg, hle1, hrd1, _, _, _⟩ := St.lendS hX 0 rfl i0 hHi hrow
  subst hv
  have HX := Aside0.mk hX
  have HST := Aside0.mk hst
  have hH10 : H.length ≤ 9 := by have := HI0.out.len; have := HI0.out.ol; omega
  have HROW := Aside0.mk hrow
  have HHL := Aside0.mk hHl
  have HHI := Aside0.mk hHi
  clear hX hst hrow hrr hHl hrd1 hfg hi1
  have hHz : (i0 : Int) < (H.length : Int) := by omega
  go_wp2_with (at_builtin; refine St.growRow (x := 0) rfl (.tmp 52) (.tmp 53) rfl HX.out 0 rfl i0 HHI.out HROW.out rfl hcg rfl ?sX (by omega) ?_; (case sX => rfl); intro A2 k2 w9 hx9 hf9 h9; have H9 := Aside0.mk h9; clear h9)
  obtain ⟨ok9, h9⟩ := H9.out
  have H10 := Aside0.mk (show St w _ [obS (Kd.slice 3 (Kd.int .i64)) 22 w ok9 (.slice (some ⟨g, 0, none⟩) H.length ch) (startOut G (i0 : Int)), obR (Kd.int .i64) 3 w okb2 (.slice Ab B1.length cb) B1, obB b4 #[.slice none 0 0, .slice none 0 0] 28, obB b2 #[.slice A0_0 l0_0.length c0_0, .slice A0_1 l0_1.length c0_1] 28] by rw [HST.out]; exact h9)
  clear h9 H9 HX hx9 hf9 hcg
  obtain ⟨wz, hwz⟩ : ∃ wz, wz = w9.setCell ⟨g, i0, none⟩ (.slice A2 (row.length + 1) k2) := ⟨_, rfl⟩
  rw [← hwz] at H10 ⊢
  clear hwz
  have hiB : i0 < B1.length := by have := HI0.out.i1; have := HOL.out; omega
  have hx9b := (HI0.out.row i0 HI0.out.i1)
  obtain ⟨x9, hx9⟩ : ∃ x, x = rd B1 (i0 : Int) := ⟨_, rfl⟩
  have hxq : x9 - 1 = (q0 : Int) := by rw [hx9]; exact HQ0.out
  have hx0 : 1 ≤ x9 ∧ x9 ≤ 9 := by rw [hx9]; omega
  obtain ⟨ad, hAb, hcb⟩ := Kd.at_int (Reads.C (H10.out.readR 1 rfl)).2 (i0 : Int) (by omega) (by omega)
  subst hAb
  rw [Int.toNat_natCast, ← hx9] at hcb
  have hwr : IntKind.i64.wrap (x9 - 1) = x9 - 1 := IntWalk.i64_in _ (by omega)
  have hiBz : (i0 : Int) < (B1.length : Int) := by omega
  have HXQ := Aside0.mk hxq
  have HL9 : Aside0 (H.length = (startOut G (i0 : Int)).length) := HHL
  clear hx9 hxq hx9b
  go_wp2
  go_region
  go_wp2
  have H11 := Aside0.mk (H10.out.quiet (below_drew (Below.refl _ _)))
  clear H10 hcb
  go_loopg [12, 13] 100 (fun kq v12 v13 wr => ∃ (f i c : Nat) (G' : List (List Int)) (ok : Nat → Prop), f ≤ kq ∧ i + c < f ∧ v12 = .int .i64 i ∧ v13 = .int .i64 c ∧ Aside0 (outWalk 100 (startOut G (i0 : Int)) (i0 : Int) (q0 : Int) = outWalk f G' (i : Int) (c : Int)) ∧ Aside0 (OutInv l0_0 B1 G' i c) ∧ Aside0 (St w wr [obS (Kd.slice 3 (Kd.int .i64)) 22 w ok (.slice (some ⟨g, 0, none⟩) H.length ch) G', obR (Kd.int .i64) 3 w okb2 (.slice (some ad) B1.length cb) B1, obB b4 #[.slice none 0 0, .slice none 0 0] 28, obB b2 #[.slice A0_0 l0_0.length c0_0, .slice A0_1 l0_1.length c0_1] 28]))
  case atStart => exact ⟨100, i0, q0, _, ok9, by omega, HF0.out, rfl, by rw [HXQ.out], ⟨rfl⟩, HI0, H11⟩
  case round =>
    clear H11 HI0
    obtain ⟨f, i, c, G', ok, hfk, hic, rfl, rfl, HW, HI, HS⟩ := hrel
    obtain ⟨f, rfl⟩ : ∃ f', f = f' + 1 := ⟨f - 1, by omega⟩
    have hi1 := HI.out.i1
    have hl9 := HI.out.len
    have ho9 := HI.out.ol
    have hrow9 := (HI.out.row i hi1).2.2.1
    have hc1 := HI.out.c1
    have hi9 : i ≤ 9 := by omega
    have hc9 : c ≤ 9 := by omega
    have HQ : Aside0 (G'.length ≤ 1048576 ∧ ∀ q ∈ G', q.length ≤ 1048576) := ⟨by omega, rows_all (fun r hr => by have := (HI.out.row r hr).2.2.1; omega)⟩
    obtain ⟨row, hrow⟩ : ∃ r, G'[i] = r := ⟨_, rfl⟩
    have hrr : rd_L1 G' (i : Int) = row := by rw [rows_eq G' i hi1]; exact hrow
    rw [hrr] at hc1 hrow9
    obtain ⟨xl, hxl⟩ : ∃ x, cellOf G' (i : Int) ((c : Int) - 1) = x := ⟨_, rfl⟩
    obtain ⟨xu, hxu⟩ : ∃ x, cellOf G' ((i : Int) - 1) (c : Int) = x := ⟨_, rfl⟩
    have HXL := Aside0.mk hxl
    have HXU := Aside0.mk hxu
    have HROW := Aside0.mk hrow
    have HRR := Aside0.mk hrr
    have HI1 := Aside0.mk hi1
    have hn9' : l0_0.length ≤ 1048576 := by omega
    clear hxl hxu hrow hrr hl9 ho9
    by_cases hz : xl = 0 ∧ xu = 0
    · have hb1 : (xl == 0) = true := beq_iff_eq.mpr hz.1
      have hb2 : (xu == 0) = true := beq_iff_eq.mpr hz.2
      have HZ := Aside0.mk hz
      obtain ⟨D1, db, hD⟩ : ∃ x y, addBox l0_0 (i : Int) = (x, y) := ⟨_, _, rfl⟩
      have HD := Aside0.mk hD
      have hw : outFin l0_0 (outWalk (f + 1) G' (i : Int) (c : Int)) = (r1, r2, r3, r4) := by rw [← HW.out]; exact HH.out
      have ew : outWalk (f + 1) G' (i : Int) (c : Int) = (G', (i : Int), (c : Int)) := by
        simp only [outWalk]
        rw [HXL.out, HXU.out, if_pos hz]
      rw [ew] at hw
      unfold outFin at hw
      simp only at hw
      rw [hD] at hw
      simp only at hw
      clear hz ew hD
      cases db with
      | false =>
        rw [if_neg (fun g => by cases g.1)] at hw
        obtain ⟨rfl, rfl, rfl, rfl⟩ : r1 = [] ∧ r2 = [] ∧ r3 = 0 ∧ r4 = false := by simpa [eq_comm] using hw
        clear hw
        go_wp2_with (first
          | (go_at_call 50; (with_reducible refine (cell_st HS.out (HS.out.readS 0 rfl) (i : Int) ((c : Int) - 1) xl HQ.out.1 HQ.out.2 HXL.out).mono ?_); rintro e w12 ⟨rfl, h_⟩; have H12 := Aside0.mk h_; clear h_)
          | (go_at_call 50; (with_reducible refine (cell_st H12.out (H12.out.readS 0 rfl) ((i : Int) - 1) (c : Int) xu HQ.out.1 HQ.out.2 HXU.out).mono ?_); rintro e w13 ⟨rfl, h_⟩; have H13 := Aside0.mk h_; clear h_; have z2_0 : w13.cell? ⟨b2, 0, none⟩ = some (.slice A0_0 l0_0.length c0_0) := St.cellB H13.out 3 rfl 0 rfl)
          | (go_at_call 58; (with_reducible refine (addBox_st H13.out (H13.out.came C0.out hc0_0) hn9' HD.out).mono ?_); rintro e w14 ⟨ud, okd, rfl, h_⟩; have H14 := Aside0.mk h_; clear h_; clear z2_0; obtain ⟨Ad, cd, rfl, _, _⟩ := H14.out.readR 0 rfl; have z4_0 : w14.cell? ⟨b4, 0, none⟩ = some (.slice none 0 0) := St.cellB H14.out 3 rfl 0 rfl; have z4_1 : w14.cell? ⟨b4, 1, none⟩ = some (.slice none 0 0) := St.cellB H14.out 3 rfl 1 rfl; have f4_0 := blk_frozen (St.heapB H14.out 3 rfl) 0; have f4_1 := blk_frozen (St.heapB H14.out 3 rfl) 1))
        have HZ9 := Aside0.mk (St.putB (St.putB H14.out 3 rfl 0 (.slice none 0 0) rfl) 3 rfl 1 (.slice none 0 0) rfl)
        refine bodyPost_ret (results_ctt rfl _ _ b4 28 #[.slice none 0 0, .slice none 0 0] (0, 0) _ rfl (St.heapB HZ9.out 3 rfl) Try.underlying28 rfl (by kernel_rfl)) rfl ?_
        exact ⟨_, _, rfl, Kd.R_nil _ _ _ _ _, Kd.S_nil _ _ _ _ _, HZ9.out.below⟩
      | true =>
        obtain ⟨g1, g2, g3⟩ := addBox_fst (p := l0_0) (a := (i : Int)) (by rw [HD.out])
        have hbl := boxed_length l0_0 (i : Int) g1.2.1 g1.2.2
        have hDe : D1 = boxed l0_0 (i : Int) := by rw [← g3, HD.out]
        have hiD : i < D1.length := by rw [hDe, hbl]; split <;> omega
        have hD9 := (isPartition_bd g2).2.1
        rw [← hDe] at hD9 g2
        have hat : ∀ r : Nat, at0 D1 (r : Int) = at0 l0_0 (r : Int) + if r = i then 1 else 0 := fun r => by rw [hDe]; exact boxed_at l0_0 i (by omega) r
        have hxd := (isPartition_bd g2).2.2 _ (rd_mem D1 i hiD)
        obtain ⟨xd, hxde⟩ : ∃ x, x = rd D1 (i : Int) := ⟨_, rfl⟩
        rw [← hxde] at hw hxd
        have hatd : at0 D1 (i : Int) = xd := by rw [at0_nat D1 i hiD, hxde]
        have HXD := Aside0.mk hxde
        have hiDz : (i : Int) < (D1.length : Int) := by omega
        clear g1 g3 hbl hDe hxde
        by_cases hxc : xd = (c : Int) + 1
        · have hb3 : (xd != (c : Int) + 1) = false := by rw [hxc]; simp
          have hb4 : (xd == (c : Int) + 1) = true := beq_iff_eq.mpr hxc
          rw [if_pos ⟨rfl, hxc⟩] at hw
          obtain ⟨e1, e2, e3, rfl⟩ : D1 = r1 ∧ partRows D1 G' 0 = r2 ∧ (i : Int) = r3 ∧ true = r4 := by simpa using hw
          subst e1 e3
          have HP := Aside0.mk e2
          have HAT : Aside0 (∀ r : Nat, r < G'.length → 0 < (rd_L1 G' (r : Int)).length → 0 ≤ at0 D1 (r : Int) ∧ at0 D1 (r : Int) ≤ ((rd_L1 G' (r : Int)).length : Int)) := ⟨fun r hr _ => by
            refine ⟨(at0_bd g2 _).1, ?_⟩
            by_cases e : r = i
            · subst e; rw [hatd, HRR.out]; omega
            · have h1 := hat r
              rw [if_neg e] at h1
              have h2 := (HI.out.row r hr).2.2.2
              omega⟩
          have HG10 : Aside0 (G'.length ≤ 10 ∧ ∀ q ∈ G', q.length ≤ 10) := ⟨by have := HI.out.len; have := HI.out.ol; omega, rows_all (fun r hr => by have := (HI.out.row r hr).2.2.1; omega)⟩
          have hD1000 : D1.length ≤ 1000 := by omega
          clear hw hat hatd g2 hxc hxd e2
          go_wp2_with (first
            | (go_at_call 50; (with_reducible refine (cell_st HS.out (HS.out.readS 0 rfl) (i : Int) ((c : Int) - 1) xl HQ.out.1 HQ.out.2 HXL.out).mono ?_); rintro e w12 ⟨rfl, h_⟩; have H12 := Aside0.mk h_; clear h_)
            | (go_at_call 50; (with_reducible refine (cell_st H12.out (H12.out.readS 0 rfl) ((i : Int) - 1) (c : Int) xu HQ.out.1 HQ.out.2 HXU.out).mono ?_); rintro e w13 ⟨rfl, h_⟩; have H13 := Aside0.mk h_; clear h_; have z2_0 : w13.cell? ⟨b2, 0, none⟩ = some (.slice A0_0 l0_0.length c0_0) := St.cellB H13.out 3 rfl 0 rfl)
            | (go_at_call 58; (with_reducible refine (addBox_st H13.out (H13.out.came C0.out hc0_0) hn9' HD.out).mono ?_); rintro e w14 ⟨ud, okd, rfl, h_⟩; have H14 := Aside0.mk h_; clear h_; clear z2_0; obtain ⟨Ad, cd, rfl, _, _⟩ := H14.out.readR 0 rfl; obtain ⟨add, hAd, hcd⟩ := Kd.at_int (Reads.C (H14.out.readR 0 rfl)).2 (i : Int) (by omega) hiDz; subst hAd; rw [Int.toNat_natCast, ← HXD.out] at hcd)
            | (go_at_call 51; (with_reducible refine (ofGrid_st H14.out (H14.out.readR 0 rfl) (H14.out.readS 1 rfl) hD1000 HG10.out.1 HG10.out.2 HAT.out HP.out).mono ?_); rintro e w15 ⟨uo, oko, rfl, h_⟩; have H15 := Aside0.mk h_; clear h_; obtain ⟨Ao, co, rfl, _, _⟩ := H15.out.readS 0 rfl; have z4_0 : w15.cell? ⟨b4, 0, none⟩ = some (.slice none 0 0) := St.cellB H15.out 4 rfl 0 rfl; have z4_1 : w15.cell? ⟨b4, 1, none⟩ = some (.slice none 0 0) := St.cellB H15.out 4 rfl 1 rfl; have f4_0 := blk_frozen (St.heapB H15.out 4 rfl) 0; have f4_1 := blk_frozen (St.heapB H15.out 4 rfl) 1))
          have HZ9 := Aside0.mk (St.putB (St.putB H15.out 4 rfl 0 (.slice (some add) D1.length cd) rfl) 4 rfl 1 (.slice Ao r2.length co) rfl)
          refine bodyPost_ret (results_ctt rfl _ _ b4 28 #[.slice (some add) D1.length cd, .slice Ao r2.length co] (0, 0) _ rfl (St.heapB HZ9.out 4 rfl) Try.underlying28 rfl (by kernel_rfl)) rfl ?_
          exact ⟨_, _, rfl, St.giveSR HZ9.out 1 0 (by decide) rfl rfl⟩
        · have hb3 : (xd != (c : Int) + 1) = true := by simpa using hxc
          have hb4 : (xd == (c : Int) + 1) = false := beq_eq_false_iff_ne.mpr hxc
          rw [if_neg (fun g => hxc g.2)] at hw
          obtain ⟨rfl, rfl, rfl, rfl⟩ : r1 = [] ∧ r2 = [] ∧ r3 = 0 ∧ r4 = false := by simpa [eq_comm] using hw
          clear hw hat hatd g2 hxc hxd
          go_wp2_with (first
            | (go_at_call 50; (with_reducible refine (cell_st HS.out (HS.out.readS 0 rfl) (i : Int) ((c : Int) - 1) xl HQ.out.1 HQ.out.2 HXL.out).mono ?_); rintro e w12 ⟨rfl, h_⟩; have H12 := Aside0.mk h_; clear h_)
            | (go_at_call 50; (with_reducible refine (cell_st H12.out (H12.out.readS 0 rfl) ((i : Int) - 1) (c : Int) xu HQ.out.1 HQ.out.2 HXU.out).mono ?_); rintro e w13 ⟨rfl, h_⟩; have H13 := Aside0.mk h_; clear h_; have z2_0 : w13.cell? ⟨b2, 0, none⟩ = some (.slice A0_0 l0_0.length c0_0) := St.cellB H13.out 3 rfl 0 rfl)
            | (go_at_call 58; (with_reducible refine (addBox_st H13.out (H13.out.came C0.out hc0_0) hn9' HD.out).mono ?_); rintro e w14 ⟨ud, okd, rfl, h_⟩; have H14 := Aside0.mk h_; clear h_; clear z2_0; obtain ⟨Ad, cd, rfl, _, _⟩ := H14.out.readR 0 rfl; obtain ⟨add, hAd, hcd⟩ := Kd.at_int (Reads.C (H14.out.readR 0 rfl)).2 (i : Int) (by omega) hiDz; subst hAd; rw [Int.toNat_natCast, ← HXD.out] at hcd; have z4_0 : w14.cell? ⟨b4, 0, none⟩ = some (.slice none 0 0) := St.cellB H14.out 3 rfl 0 rfl; have z4_1 : w14.cell? ⟨b4, 1, none⟩ = some (.slice none 0 0) := St.cellB H14.out 3 rfl 1 rfl; have f4_0 := blk_frozen (St.heapB H14.out 3 rfl) 0; have f4_1 := blk_frozen (St.heapB H14.out 3 rfl) 1))
          have HZ9 := Aside0.mk (St.putB (St.putB H14.out 3 rfl 0 (.slice none 0 0) rfl) 3 rfl 1 (.slice none 0 0) rfl)
          refine bodyPost_ret (results_ctt rfl _ _ b4 28 #[.slice none 0 0, .slice none 0 0] (0, 0) _ rfl (St.heapB HZ9.out 3 rfl) Try.underlying28 rfl (by kernel_rfl)) rfl ?_
          exact ⟨_, _, rfl, Kd.R_nil _ _ _ _ _, Kd.S_nil _ _ _ _ _, HZ9.out.below⟩
    · have h3 := HI.out.next (by rw [HXL.out, HXU.out]; exact hz)
      rw [HXL.out, HXU.out] at h3
      have hHG : H.length = G'.length := by rw [HL9.out, ← HOL.out, HI.out.len]
      have hiHz : (i : Int) < (H.length : Int) := by omega
      have hcrz : (c : Int) < (row.length : Int) := by omega
      have hset : ∀ x : Int, setAt G' (i : Int) (c : Int) x = G'.set i (row.set c x) := fun x => by unfold setAt; rw [HRR.out, Int.toNat_natCast, Int.toNat_natCast]
      have HSET := Aside0.mk hset
      have HZ := Aside0.mk hz
      clear hset hHG
      rcases h3 with ⟨hle, hi0, hI⟩ | ⟨hlt, hc0, hI⟩
      · have HW2 : Aside0 (outWalk 100 (startOut G (i0 : Int)) (i0 : Int) (q0 : Int) = outWalk f (setAt G' (i : Int) (c : Int) xu) ((i - 1 : Nat) : Int) (c : Int)) := ⟨by
          rw [HW.out]
          simp only [outWalk]
          rw [HXL.out, HXU.out, if_neg HZ.out, if_pos hle, show ((i : Int) - 1) = ((i - 1 : Nat) : Int) by omega]⟩
        have HI2 := Aside0.mk hI
        have hd : decide (xl ≤ xu) = true := decide_eq_true hle
        have ei : Value.int .i64 ((i : Int) - 1) = Value.int .i64 ((i - 1 : Nat) : Int) := by rw [show ((i : Int) - 1) = ((i - 1 : Nat) : Int) by omega]
        have EI := Aside0.mk ei
        clear hI ei hz HW HI
        by_cases hl0 : xl = 0
        all_goals first | have hb1 : (xl == 0) = true := beq_iff_eq.mpr hl0 | have hb1 : (xl == 0) = false := beq_eq_false_iff_ne.mpr hl0
        all_goals have HL0 := Aside0.mk hl0
        all_goals clear hl0
        all_goals try have hb2 : (xu == 0) = false := beq_eq_false_iff_ne.mpr (fun e => HZ.out ⟨HL0.out, e⟩)
        all_goals go_wp2_with (first
          | (go_at_call 50; (with_reducible refine (cell_st HS.out (HS.out.readS 0 rfl) (i : Int) ((c : Int) - 1) xl HQ.out.1 HQ.out.2 HXL.out).mono ?_); rintro e w12 ⟨rfl, h_⟩; have H12 := Aside0.mk h_; clear h_)
          | (go_at_call 50; (with_reducible refine (cell_st H12.out (H12.out.readS 0 rfl) ((i : Int) - 1) (c : Int) xu HQ.out.1 HQ.out.2 HXU.out).mono ?_); rintro e w13 ⟨rfl, h_⟩; have H13 := Aside0.mk h_; clear h_; obtain ⟨g_, c_, A1, k1, hv, hgb, hcg, hfg, hle1, hrd, hne, hput, _⟩ := St.lendS H13.out 0 rfl i HI1.out HROW.out; injection hv with e1 e2_ e3_; clear e2_ e3_; injection e1 with e1; injection e1 with e1 _ _; subst e1; obtain ⟨g1, rfl, hg1⟩ := hne (by omega); obtain ⟨hcc, hfc, hst⟩ := hput c g1 hc1 rfl; have HST2 := Aside0.mk hst; clear hput hst hne hrd hfg))
        all_goals go_roundg f
        all_goals first
          | omega
          | exact ⟨f, i - 1, c, setAt G' (i : Int) (c : Int) xu, ok, by omega, by omega, EI.out, rfl, HW2, HI2, ⟨by rw [HSET.out]; exact HST2.out xu⟩⟩
      · have HW2 : Aside0 (outWalk 100 (startOut G (i0 : Int)) (i0 : Int) (q0 : Int) = outWalk f (setAt G' (i : Int) (c : Int) xl) (i : Int) ((c - 1 : Nat) : Int)) := ⟨by
          rw [HW.out]
          simp only [outWalk]
          rw [HXL.out, HXU.out, if_neg HZ.out, if_neg (by omega), show ((c : Int) - 1) = ((c - 1 : Nat) : Int) by omega]⟩
        have HI2 := Aside0.mk hI
        have hd : decide (xl ≤ xu) = false := decide_eq_false (by omega)
        have ei : Value.int .i64 ((c : Int) - 1) = Value.int .i64 ((c - 1 : Nat) : Int) := by rw [show ((c : Int) - 1) = ((c - 1 : Nat) : Int) by omega]
        have EI := Aside0.mk ei
        clear hI ei hz HW HI
        by_cases hl0 : xl = 0
        all_goals first | have hb1 : (xl == 0) = true := beq_iff_eq.mpr hl0 | have hb1 : (xl == 0) = false := beq_eq_false_iff_ne.mpr hl0
        all_goals have HL0 := Aside0.mk hl0
        all_goals clear hl0
        all_goals try have hb2 : (xu == 0) = false := beq_eq_false_iff_ne.mpr (fun e => HZ.out ⟨HL0.out, e⟩)
        all_goals go_wp2_with (first
          | (go_at_call 50; (with_reducible refine (cell_st HS.out (HS.out.readS 0 rfl) (i : Int) ((c : Int) - 1) xl HQ.out.1 HQ.out.2 HXL.out).mono ?_); rintro e w12 ⟨rfl, h_⟩; have H12 := Aside0.mk h_; clear h_)
          | (go_at_call 50; (with_reducible refine (cell_st H12.out (H12.out.readS 0 rfl) ((i : Int) - 1) (c : Int) xu HQ.out.1 HQ.out.2 HXU.out).mono ?_); rintro e w13 ⟨rfl, h_⟩; have H13 := Aside0.mk h_; clear h_; obtain ⟨g_, c_, A1, k1, hv, hgb, hcg, hfg, hle1, hrd, hne, hput, _⟩ := St.lendS H13.out 0 rfl i HI1.out HROW.out; injection hv with e1 e2_ e3_; clear e2_ e3_; injection e1 with e1; injection e1 with e1 _ _; subst e1; obtain ⟨g1, rfl, hg1⟩ := hne (by omega); obtain ⟨hcc, hfc, hst⟩ := hput c g1 hc1 rfl; have HST2 := Aside0.mk hst; clear hput hst hne hrd hfg))
        all_goals go_roundg f
        all_goals first
          | omega
          | exact ⟨f, i, c - 1, setAt G' (i : Int) (c : Int) xl, ok, by omega, by omega, rfl, EI.out, HW2, HI2, ⟨by rw [HSET.out]; exact HST2.out xl⟩⟩

theorem spec_SlideOut_st {w W : World} {L : List Ob} {v0_0 v0_1 : Value} (l0_0 : List Int) (l0_1 : List (List Int)) (a1 : Int) {r1 : List Int} {r2 : List (List Int)} {r3 : Int} {r4 : Bool} (h : St w W L) (hr0_0 : Reads (Kd.int .i64) W v0_0 l0_0) (hr0_1 : Reads (Kd.slice 3 (Kd.int .i64)) W v0_1 l0_1) (hE : Ev (fun k => spec_SlideOut.f k l0_0 l0_1 a1) (r1, r2, r3, r4)) :
    Calls Try.prog 24 #[.agg #[v0_0, v0_1], .int .i64 a1] W fun e W' => ∃ v0_ v1_ : Value, ∃ ok0 ok1, e = .returned (.tuple #[.agg #[v0_, v1_], .int .i64 r3, .bool r4]) ∧ St w W' (obR (Kd.int .i64) 3 w ok0 v0_ r1 :: obS (Kd.slice 3 (Kd.int .i64)) 22 w ok1 v1_ r2 :: L) := by
  obtain ⟨A0_0, c0_0, rfl, hc0_0, hC0_0⟩ := hr0_0
  obtain ⟨A0_1, c0_1, rfl, hc0_1, hC0_1⟩ := hr0_1
  obtain ⟨K, hK⟩ := hE
  refine (spec_SlideOut.calls K A0_0 c0_0 l0_0 A0_1 c0_1 l0_1 a1 r1 r2 r3 r4 W hC0_0 hc0_0 hC0_1 hc0_1 (hK K (Nat.le_refl _))).mono ?_
  rintro e W' ⟨v0_, v1_, rfl, o0, o1, hb⟩
  obtain ⟨ok0, ok1, h1⟩ := St.addRS rfl h hb o0 o1
  exact ⟨v0_, v1_, ok0, ok1, rfl, h1⟩
theorem impl_SlideOut_st {w W : World} {L : List Ob} {v0_0 v0_1 : Value} (l0_0 : List Int) (l0_1 : List (List Int)) (a1 : Int) {r1 : List Int} {r2 : List (List Int)} {r3 : Int} {r4 : Bool} (h : St w W L) (hr0_0 : Reads (Kd.int .i64) W v0_0 l0_0) (hr0_1 : Reads (Kd.slice 3 (Kd.int .i64)) W v0_1 l0_1) (hE : impl_SlideOut.f l0_0 l0_1 a1 = some (r1, r2, r3, r4)) :
    Calls Try.prog 25 #[.agg #[v0_0, v0_1], .int .i64 a1] W fun e W' => ∃ v0_ v1_ : Value, ∃ ok0 ok1, e = .returned (.tuple #[.agg #[v0_, v1_], .int .i64 r3, .bool r4]) ∧ St w W' (obR (Kd.int .i64) 3 w ok0 v0_ r1 :: obS (Kd.slice 3 (Kd.int .i64)) 22 w ok1 v1_ r2 :: L) := by
  obtain ⟨A0_0, c0_0, rfl, hc0_0, hC0_0⟩ := hr0_0
  obtain ⟨A0_1, c0_1, rfl, hc0_1, hC0_1⟩ := hr0_1
  refine (impl_SlideOut.calls A0_0 c0_0 l0_0 A0_1 c0_1 l0_1 a1 r1 r2 r3 r4 W hC0_0 hc0_0 hC0_1 hc0_1 hE).mono ?_
  rintro e W' ⟨v0_, v1_, rfl, o0, o1, hb⟩
  obtain ⟨ok0, ok1, h1⟩ := St.addRS rfl h hb o0 o1
  exact ⟨v0_, v1_, ok0, ok1, rfl, h1⟩
def FnExactSlideOut.Pure : Prop := ∀ (l0_0 : List Int) (l0_1 : List (List Int)) (a1 : Int), (l0_0.length ≤ maxLen) → (∀ n ∈ l0_0, (Lit.int .i64 n).wf = true) → (l0_1.length ≤ maxLen) → (∀ r ∈ l0_1, r.length ≤ maxLen) → (∀ r ∈ l0_1, ∀ n ∈ r, (Lit.int .i64 n).wf = true) → ((Lit.int .i64 a1).wf = true) → (l0_0.length ≤ 1048576) → (l0_1.length ≤ 1048576 ∧ bulk l0_1 ≤ 1048576) → ∃ (qr1 : List Int) (qr2 : List (List Int)) (qr3 : Int) (qr4 : Bool), Ev (fun k => spec_SlideOut.f k l0_0 l0_1 a1) (qr1, qr2, qr3, qr4) ∧ impl_SlideOut.f l0_0 l0_1 a1 = some (qr1, qr2, qr3, qr4) ∧ qr1.length ≤ 576460752303423488 ∧ qr2.length ≤ 576460752303423488 ∧ bulk qr2 ≤ 576460752303423488
set_option maxHeartbeats 8000000 in
set_option maxRecDepth 100000 in
theorem FnExactSlideOut.walk (P : FnExactSlideOut.Pure) (A0_0 : Option Addr) (c0_0 : Nat) (l0_0 : List Int) (A0_1 : Option Addr) (c0_1 : Nat) (l0_1 : List (List Int)) (a1 : Int) (w : World) (hr0_0 : Kd.C (Kd.int .i64) w A0_0 l0_0.length l0_0) (hc0_0 : l0_0.length ≤ c0_0) (hr0_1 : Kd.C (Kd.slice 3 (Kd.int .i64)) w A0_1 l0_1.length l0_1) (hc0_1 : l0_1.length ≤ c0_1) (m0_0 : l0_0.length ≤ maxLen) (y0_0 : ∀ n ∈ l0_0, (Lit.int .i64 n).wf = true) (m0_1 : l0_1.length ≤ maxLen) (n0_1 : ∀ r ∈ l0_1, r.length ≤ maxLen) (y0_1 : ∀ r ∈ l0_1, ∀ n ∈ r, (Lit.int .i64 n).wf = true) (y1 : (Lit.int .i64 a1).wf = true) :
    Calls Try.prog 6 #[.agg #[.slice A0_0 l0_0.length c0_0, .slice A0_1 l0_1.length c0_1], .int .i64 a1] w fun e w' => e = .returned (.bool true) ∧ Below w.heap.size w w' := by
  have H0 := Aside0.mk (St.boxAt (St.start w) #[.slice A0_0 l0_0.length c0_0, .slice A0_1 l0_1.length c0_1] 25 (b := w.heap.size) (by simp only [World.size_alloc]))
  have y0_0_0 : (w.alloc (.cells #[.slice A0_0 l0_0.length c0_0, .slice A0_1 l0_1.length c0_1] 25 (0, 0))).cell? ⟨w.heap.size, 0, none⟩ = some (.slice A0_0 l0_0.length c0_0) := St.cellB H0.out 0 rfl 0 rfl
  have y0_0_1 : (w.alloc (.cells #[.slice A0_0 l0_0.length c0_0, .slice A0_1 l0_1.length c0_1] 25 (0, 0))).cell? ⟨w.heap.size, 1, none⟩ = some (.slice A0_1 l0_1.length c0_1) := St.cellB H0.out 0 rfl 1 rfl
  have C0_0 := Aside0.mk hr0_0
  have C0_1 := Aside0.mk hr0_1
  obtain ⟨z0, hz0, hp0⟩ := szTableau_evb l0_0 l0_1 1048576 (by omega) (by omega) m0_0 m0_1 n0_1
  have Z0 := Aside0.mk hz0
  clear hz0
  by_cases s0 : z0 < 0
  case pos =>
    have b0 : decide (z0 < 0) = true := decide_eq_true s0
    clear s0 hp0 hr0_0 hr0_1
    go_enter Try.func6, Try.ntmps6
    go_wp2_with (go_at_call 10; (with_reducible refine (szTableau_st H0.out (H0.out.came C0_0.out hc0_0) (H0.out.came C0_1.out hc0_1) Z0.out).mono ?_); rintro e w1 ⟨rfl, h_⟩; have H1 := Aside0.mk h_; clear h_ H0 y0_0_0 y0_0_1; have y1_0_0 : w1.cell? ⟨w.heap.size, 0, none⟩ = some (.slice A0_0 l0_0.length c0_0) := St.cellB H1.out 0 rfl 0 rfl; have y1_0_1 : w1.cell? ⟨w.heap.size, 1, none⟩ = some (.slice A0_1 l0_1.length c0_1) := St.cellB H1.out 0 rfl 1 rfl)
    go_wp2
    go_ret
    exact ⟨by simp, H1.out.below⟩
  have b0 : decide (z0 < 0) = false := decide_eq_false s0
  obtain ⟨qr1, qr2, qr3, qr4, hs, hi, e0, e1⟩ := P l0_0 l0_1 a1 m0_0 y0_0 m0_1 n0_1 y0_1 y1 (by omega) ⟨by omega, by omega⟩
  have F := Aside0.mk (And.intro (by omega : l0_0.length ≤ 1048576) (And.intro (⟨by omega, by omega⟩ : l0_1.length ≤ 1048576 ∧ bulk l0_1 ≤ 1048576) (And.intro e0 (e1))))
  have Hs := Aside0.mk hs
  have Hi := Aside0.mk hi
  clear hs hi e0 e1 hr0_0 hr0_1 m0_0 y0_0 m0_1 n0_1 y0_1 y1
  clear P s0 hp0
  go_enter Try.func6, Try.ntmps6
  go_wp2_with (go_at_call 10; (with_reducible refine (szTableau_st H0.out (H0.out.came C0_0.out hc0_0) (H0.out.came C0_1.out hc0_1) Z0.out).mono ?_); rintro e w1 ⟨rfl, h_⟩; have H1 := Aside0.mk h_; clear h_ H0 y0_0_0 y0_0_1; have y1_0_0 : w1.cell? ⟨w.heap.size, 0, none⟩ = some (.slice A0_0 l0_0.length c0_0) := St.cellB H1.out 0 rfl 0 rfl; have y1_0_1 : w1.cell? ⟨w.heap.size, 1, none⟩ = some (.slice A0_1 l0_1.length c0_1) := St.cellB H1.out 0 rfl 1 rfl)
  go_wp2_with (go_at_call 12; (with_reducible refine (toTableau_st H1.out (H1.out.came C0_0.out hc0_0) (H1.out.came C0_1.out hc0_1) (by have f_ := F.out; omega) (by have f_ := F.out; omega) (fun r h_ => by have f_ := F.out; have := bulk_mem h_; omega)).mono ?_); rintro e w2 ⟨v1_0, v1_1, ok1_0, ok1_1, rfl, h_⟩; have H2 := Aside0.mk h_; clear h_ H1 y1_0_0 y1_0_1; obtain ⟨Aq1_0, cq1_0, rfl, _, _⟩ := H2.out.readR 0 rfl; obtain ⟨Aq1_1, cq1_1, rfl, _, _⟩ := H2.out.readS 1 rfl)
  go_wp2_with (go_at_call 24; (with_reducible refine (spec_SlideOut_st _ _ _ H2.out (H2.out.readR 0 rfl) (H2.out.readS 1 rfl) Hs.out).mono ?_); rintro e w3 ⟨v2_0, v2_1, ok2_0, ok2_1, rfl, h_⟩; have H3 := Aside0.mk h_; clear h_ H2; obtain ⟨Aq2_0, cq2_0, rfl, _, _⟩ := H3.out.readR 0 rfl; obtain ⟨Aq2_1, cq2_1, rfl, _, _⟩ := H3.out.readS 1 rfl; have HB3 := Aside0.mk (St.box H3.out #[.slice Aq2_0 qr1.length cq2_0, .slice Aq2_1 qr2.length cq2_1] 28); clear H3; have z2_5_0 : (w3.alloc (.cells #[.slice Aq2_0 qr1.length cq2_0, .slice Aq2_1 qr2.length cq2_1] 28 (0, 0))).cell? ⟨w.heap.size, 0, none⟩ = some (.slice A0_0 l0_0.length c0_0) := St.cellB HB3.out 5 rfl 0 rfl; have z2_5_1 : (w3.alloc (.cells #[.slice Aq2_0 qr1.length cq2_0, .slice Aq2_1 qr2.length cq2_1] 28 (0, 0))).cell? ⟨w.heap.size, 1, none⟩ = some (.slice A0_1 l0_1.length c0_1) := St.cellB HB3.out 5 rfl 1 rfl)
  go_wp2_with (go_at_call 12; (with_reducible refine (toTableau_st HB3.out (HB3.out.came C0_0.out hc0_0) (HB3.out.came C0_1.out hc0_1) (by have f_ := F.out; omega) (by have f_ := F.out; omega) (fun r h_ => by have f_ := F.out; have := bulk_mem h_; omega)).mono ?_); rintro e w4 ⟨v3_0, v3_1, ok3_0, ok3_1, rfl, h_⟩; have H4 := Aside0.mk h_; clear h_ HB3 z2_5_0 z2_5_1; obtain ⟨Aq3_0, cq3_0, rfl, _, _⟩ := H4.out.readR 0 rfl; obtain ⟨Aq3_1, cq3_1, rfl, _, _⟩ := H4.out.readS 1 rfl; have HB4 := Aside0.mk (St.box H4.out #[.slice Aq3_0 l0_0.length cq3_0, .slice Aq3_1 l0_1.length cq3_1] 28); clear H4; have z3_0_0 : (w4.alloc (.cells #[.slice Aq3_0 l0_0.length cq3_0, .slice Aq3_1 l0_1.length cq3_1] 28 (0, 0))).cell? ⟨w4.heap.size, 0, none⟩ = some (.slice Aq3_0 l0_0.length cq3_0) := St.cellB HB4.out 0 rfl 0 rfl; have z3_0_1 : (w4.alloc (.cells #[.slice Aq3_0 l0_0.length cq3_0, .slice Aq3_1 l0_1.length cq3_1] 28 (0, 0))).cell? ⟨w4.heap.size, 1, none⟩ = some (.slice Aq3_1 l0_1.length cq3_1) := St.cellB HB4.out 0 rfl 1 rfl)
  go_wp2_with (go_at_call 25; (with_reducible refine (impl_SlideOut_st _ _ _ HB4.out (HB4.out.readR 1 rfl) (HB4.out.readS 2 rfl) Hi.out).mono ?_); rintro e w5 ⟨v4_0, v4_1, ok4_0, ok4_1, rfl, h_⟩; have H5 := Aside0.mk h_; clear h_ HB4 z3_0_0 z3_0_1; obtain ⟨Aq4_0, cq4_0, rfl, _, _⟩ := H5.out.readR 0 rfl; obtain ⟨Aq4_1, cq4_1, rfl, _, _⟩ := H5.out.readS 1 rfl; have HB5 := Aside0.mk (St.box H5.out #[.slice Aq4_0 qr1.length cq4_0, .slice Aq4_1 qr2.length cq4_1] 28); clear H5; have z4_0_0 : (w5.alloc (.cells #[.slice Aq4_0 qr1.length cq4_0, .slice Aq4_1 qr2.length cq4_1] 28 (0, 0))).cell? ⟨w5.heap.size, 0, none⟩ = some (.slice Aq4_0 qr1.length cq4_0) := St.cellB HB5.out 0 rfl 0 rfl; have z4_0_1 : (w5.alloc (.cells #[.slice Aq4_0 qr1.length cq4_0, .slice Aq4_1 qr2.length cq4_1] 28 (0, 0))).cell? ⟨w5.heap.size, 1, none⟩ = some (.slice Aq4_1 qr2.length cq4_1) := St.cellB HB5.out 0 rfl 1 rfl; have z4_6_0 : (w5.alloc (.cells #[.slice Aq4_0 qr1.length cq4_0, .slice Aq4_1 qr2.length cq4_1] 28 (0, 0))).cell? ⟨w3.heap.size, 0, none⟩ = some (.slice Aq2_0 qr1.length cq2_0) := St.cellB HB5.out 6 rfl 0 rfl; have z4_6_1 : (w5.alloc (.cells #[.slice Aq4_0 qr1.length cq4_0, .slice Aq4_1 qr2.length cq4_1] 28 (0, 0))).cell? ⟨w3.heap.size, 1, none⟩ = some (.slice Aq2_1 qr2.length cq2_1) := St.cellB HB5.out 6 rfl 1 rfl)
  go_wp2_with (go_at_call 14; (with_reducible refine (eqTableau_st_same HB5.out (HB5.out.readR 1 rfl) (HB5.out.readS 2 rfl) (HB5.out.readR 7 rfl) (HB5.out.readS 8 rfl) (by have f_ := F.out; omega) (by have f_ := F.out; omega) (fun r h_ => by have f_ := F.out; have := bulk_mem h_; omega)).mono ?_); rintro e w6 ⟨rfl, h_⟩; have H6 := Aside0.mk h_; clear h_ HB5 z4_0_0 z4_0_1 z4_6_0 z4_6_1)
  have HD6 := Aside0.mk (H6.out.quiet (below_drew (Below.refl _ _)))
  clear H6
  go_region_held3 (fun W => W.cell? ⟨w4.heap.size, 0, none⟩ = some (.slice Aq3_0 l0_0.length cq3_0) ∧ W.cell? ⟨w4.heap.size, 1, none⟩ = some (.slice Aq3_1 l0_1.length cq3_1) ∧ W.cell? ⟨w.heap.size, 0, none⟩ = some (.slice A0_0 l0_0.length c0_0) ∧ W.cell? ⟨w.heap.size, 1, none⟩ = some (.slice A0_1 l0_1.length c0_1)) (first | exact ⟨St.cellB HD6.out 3 rfl 0 rfl, St.cellB HD6.out 3 rfl 1 rfl, St.cellB HD6.out 11 rfl 0 rfl, St.cellB HD6.out 11 rfl 1 rfl⟩ | exact ⟨St.cellB H7.out 5 rfl 0 rfl, St.cellB H7.out 5 rfl 1 rfl, St.cellB H7.out 13 rfl 0 rfl, St.cellB H7.out 13 rfl 1 rfl⟩ | exact ⟨St.cellB H8.out 5 rfl 0 rfl, St.cellB H8.out 5 rfl 1 rfl, St.cellB H8.out 13 rfl 0 rfl, St.cellB H8.out 13 rfl 1 rfl⟩)
  (first | (go_at_call 12; (with_reducible refine (toTableau_st HD6.out (HD6.out.came C0_0.out hc0_0) (HD6.out.came C0_1.out hc0_1) (by have f_ := F.out; omega) (by have f_ := F.out; omega) (fun r h_ => by have f_ := F.out; have := bulk_mem h_; omega)).mono ?_); rintro e w7 ⟨v6_0, v6_1, ok6_0, ok6_1, rfl, h_⟩; have H7 := Aside0.mk h_; clear h_ HD6; obtain ⟨Aq6_0, cq6_0, rfl, _, _⟩ := H7.out.readR 0 rfl; obtain ⟨Aq6_1, cq6_1, rfl, _, _⟩ := H7.out.readS 1 rfl) | (go_at_call 14; (with_reducible refine (eqTableau_st_same H7.out (H7.out.readR 6 rfl) (H7.out.readS 7 rfl) (H7.out.readR 0 rfl) (H7.out.readS 1 rfl) (by have f_ := F.out; omega) (by have f_ := F.out; omega) (fun r h_ => by have f_ := F.out; have := bulk_mem h_; omega)).mono ?_); rintro e w8 ⟨rfl, h_⟩; have H8 := Aside0.mk h_; clear h_ H7; have z7_5_0 : w8.cell? ⟨w4.heap.size, 0, none⟩ = some (.slice Aq3_0 l0_0.length cq3_0) := St.cellB H8.out 5 rfl 0 rfl; have z7_5_1 : w8.cell? ⟨w4.heap.size, 1, none⟩ = some (.slice Aq3_1 l0_1.length cq3_1) := St.cellB H8.out 5 rfl 1 rfl))
  go_wp2_with (go_at_call 18; (refine (markTableau_st (L' := [obR (Kd.int .i64) 3 w ok6_0 (.slice Aq6_0 l0_0.length cq6_0) l0_0, obS (Kd.slice 3 (Kd.int .i64)) 22 w ok6_1 (.slice Aq6_1 l0_1.length cq6_1) l0_1, obB w5.heap.size #[.slice Aq4_0 qr1.length cq4_0, .slice Aq4_1 qr2.length cq4_1] 28, obR (Kd.int .i64) 3 w ok4_0 (.slice Aq4_0 qr1.length cq4_0) qr1, obS (Kd.slice 3 (Kd.int .i64)) 22 w ok4_1 (.slice Aq4_1 qr2.length cq4_1) qr2, obB w4.heap.size #[.slice Aq3_0 l0_0.length cq3_0, .slice Aq3_1 l0_1.length cq3_1] 28, obR (Kd.int .i64) 3 w ok3_0 (.slice Aq3_0 l0_0.length cq3_0) (marks 1 l0_0.length), obS (Kd.slice 3 (Kd.int .i64)) 22 w ok3_1 (.slice Aq3_1 l0_1.length cq3_1) (rowMarks (1 + l0_0.length) l0_1), obB w3.heap.size #[.slice Aq2_0 qr1.length cq2_0, .slice Aq2_1 qr2.length cq2_1] 28, obR (Kd.int .i64) 3 w ok2_0 (.slice Aq2_0 qr1.length cq2_0) qr1, obS (Kd.slice 3 (Kd.int .i64)) 22 w ok2_1 (.slice Aq2_1 qr2.length cq2_1) qr2, obR (Kd.int .i64) 3 w ok1_0 (.slice Aq1_0 l0_0.length cq1_0) l0_0, obS (Kd.slice 3 (Kd.int .i64)) 22 w ok1_1 (.slice Aq1_1 l0_1.length cq1_1) l0_1, obB w.heap.size #[.slice A0_0 l0_0.length c0_0, .slice A0_1 l0_1.length c0_1] 25]) H8.out 6 7 rfl (by decide) rfl 1 (by have f_ := F.out; omega) (by have f_ := F.out; omega) (by have f_ := F.out; omega) (by have f_ := F.out; omega) rfl).mono ?_); rintro e w9 ⟨rfl, h_⟩; have H9 := Aside0.mk h_; clear h_ H8 z7_5_0 z7_5_1; have z8_2_0 : w9.cell? ⟨w5.heap.size, 0, none⟩ = some (.slice Aq4_0 qr1.length cq4_0) := St.cellB H9.out 2 rfl 0 rfl; have z8_2_1 : w9.cell? ⟨w5.heap.size, 1, none⟩ = some (.slice Aq4_1 qr2.length cq4_1) := St.cellB H9.out 2 rfl 1 rfl; have z8_8_0 : w9.cell? ⟨w3.heap.size, 0, none⟩ = some (.slice Aq2_0 qr1.length cq2_0) := St.cellB H9.out 8 rfl 0 rfl; have z8_8_1 : w9.cell? ⟨w3.heap.size, 1, none⟩ = some (.slice Aq2_1 qr2.length cq2_1) := St.cellB H9.out 8 rfl 1 rfl)
  go_wp2_with (go_at_call 14; (with_reducible refine (eqTableau_st_same H9.out (H9.out.readR 3 rfl) (H9.out.readS 4 rfl) (H9.out.readR 9 rfl) (H9.out.readS 10 rfl) (by have f_ := F.out; omega) (by have f_ := F.out; omega) (fun r h_ => by have f_ := F.out; have := bulk_mem h_; omega)).mono ?_); rintro e w10 ⟨rfl, h_⟩; have H10 := Aside0.mk h_; clear h_ H9 z8_2_0 z8_2_1 z8_8_0 z8_8_1; have z9_2_0 : w10.cell? ⟨w5.heap.size, 0, none⟩ = some (.slice Aq4_0 qr1.length cq4_0) := St.cellB H10.out 2 rfl 0 rfl; have z9_2_1 : w10.cell? ⟨w5.heap.size, 1, none⟩ = some (.slice Aq4_1 qr2.length cq4_1) := St.cellB H10.out 2 rfl 1 rfl)
  go_wp2_with (go_at_call 18; (refine (markTableau_st (L' := [obR (Kd.int .i64) 3 w ok6_0 (.slice Aq6_0 l0_0.length cq6_0) l0_0, obS (Kd.slice 3 (Kd.int .i64)) 22 w ok6_1 (.slice Aq6_1 l0_1.length cq6_1) l0_1, obB w5.heap.size #[.slice Aq4_0 qr1.length cq4_0, .slice Aq4_1 qr2.length cq4_1] 28, obR (Kd.int .i64) 3 w ok4_0 (.slice Aq4_0 qr1.length cq4_0) (marks 1 qr1.length), obS (Kd.slice 3 (Kd.int .i64)) 22 w ok4_1 (.slice Aq4_1 qr2.length cq4_1) (rowMarks (1 + qr1.length) qr2), obB w4.heap.size #[.slice Aq3_0 l0_0.length cq3_0, .slice Aq3_1 l0_1.length cq3_1] 28, obR (Kd.int .i64) 3 w ok3_0 (.slice Aq3_0 l0_0.length cq3_0) (marks 1 l0_0.length), obS (Kd.slice 3 (Kd.int .i64)) 22 w ok3_1 (.slice Aq3_1 l0_1.length cq3_1) (rowMarks (1 + l0_0.length) l0_1), obB w3.heap.size #[.slice Aq2_0 qr1.length cq2_0, .slice Aq2_1 qr2.length cq2_1] 28, obR (Kd.int .i64) 3 w ok2_0 (.slice Aq2_0 qr1.length cq2_0) qr1, obS (Kd.slice 3 (Kd.int .i64)) 22 w ok2_1 (.slice Aq2_1 qr2.length cq2_1) qr2, obR (Kd.int .i64) 3 w ok1_0 (.slice Aq1_0 l0_0.length cq1_0) l0_0, obS (Kd.slice 3 (Kd.int .i64)) 22 w ok1_1 (.slice Aq1_1 l0_1.length cq1_1) l0_1, obB w.heap.size #[.slice A0_0 l0_0.length c0_0, .slice A0_1 l0_1.length c0_1] 25]) H10.out 3 4 rfl (by decide) rfl 1 (by have f_ := F.out; omega) (by have f_ := F.out; omega) (by have f_ := F.out; omega) (by have f_ := F.out; omega) rfl).mono ?_); rintro e w11 ⟨rfl, h_⟩; have H11 := Aside0.mk h_; clear h_ H10 z9_2_0 z9_2_1; have z10_2_0 : w11.cell? ⟨w5.heap.size, 0, none⟩ = some (.slice Aq4_0 qr1.length cq4_0) := St.cellB H11.out 2 rfl 0 rfl; have z10_2_1 : w11.cell? ⟨w5.heap.size, 1, none⟩ = some (.slice Aq4_1 qr2.length cq4_1) := St.cellB H11.out 2 rfl 1 rfl)
  go_wp2_with (go_at_call 23; (refine (heldTableau_st H11.out qr1.length qr2 1 (H11.out.readR 3 rfl) (H11.out.readS 4 rfl) (by have f_ := F.out; omega) (by have f_ := F.out; omega) (by have f_ := F.out; omega) (by have f_ := F.out; omega)).mono ?_); rintro e w12 ⟨rfl, h_⟩; have H12 := Aside0.mk h_; clear h_ H11 z10_2_0 z10_2_1; have z11_13_0 : w12.cell? ⟨w.heap.size, 0, none⟩ = some (.slice A0_0 l0_0.length c0_0) := St.cellB H12.out 13 rfl 0 rfl; have z11_13_1 : w12.cell? ⟨w.heap.size, 1, none⟩ = some (.slice A0_1 l0_1.length c0_1) := St.cellB H12.out 13 rfl 1 rfl)
  go_wp2_with (go_at_call 12; (with_reducible refine (toTableau_st H12.out (H12.out.came C0_0.out hc0_0) (H12.out.came C0_1.out hc0_1) (by have f_ := F.out; omega) (by have f_ := F.out; omega) (fun r h_ => by have f_ := F.out; have := bulk_mem h_; omega)).mono ?_); rintro e w13 ⟨v12_0, v12_1, ok12_0, ok12_1, rfl, h_⟩; have H13 := Aside0.mk h_; clear h_ H12 z11_13_0 z11_13_1; obtain ⟨Aq12_0, cq12_0, rfl, _, _⟩ := H13.out.readR 0 rfl; obtain ⟨Aq12_1, cq12_1, rfl, _, _⟩ := H13.out.readS 1 rfl)
  go_wp2_with (go_at_call 25; (with_reducible refine (impl_SlideOut_st _ _ _ H13.out (H13.out.readR 0 rfl) (H13.out.readS 1 rfl) Hi.out).mono ?_); rintro e w14 ⟨v13_0, v13_1, ok13_0, ok13_1, rfl, h_⟩; have H14 := Aside0.mk h_; clear h_ H13; obtain ⟨Aq13_0, cq13_0, rfl, _, _⟩ := H14.out.readR 0 rfl; obtain ⟨Aq13_1, cq13_1, rfl, _, _⟩ := H14.out.readS 1 rfl; have HB14 := Aside0.mk (St.box H14.out #[.slice Aq13_0 qr1.length cq13_0, .slice Aq13_1 qr2.length cq13_1] 28); clear H14; have z13_0_0 : (w14.alloc (.cells #[.slice Aq13_0 qr1.length cq13_0, .slice Aq13_1 qr2.length cq13_1] 28 (0, 0))).cell? ⟨w14.heap.size, 0, none⟩ = some (.slice Aq13_0 qr1.length cq13_0) := St.cellB HB14.out 0 rfl 0 rfl; have z13_0_1 : (w14.alloc (.cells #[.slice Aq13_0 qr1.length cq13_0, .slice Aq13_1 qr2.length cq13_1] 28 (0, 0))).cell? ⟨w14.heap.size, 1, none⟩ = some (.slice Aq13_1 qr2.length cq13_1) := St.cellB HB14.out 0 rfl 1 rfl; have z13_13_0 : (w14.alloc (.cells #[.slice Aq13_0 qr1.length cq13_0, .slice Aq13_1 qr2.length cq13_1] 28 (0, 0))).cell? ⟨w3.heap.size, 0, none⟩ = some (.slice Aq2_0 qr1.length cq2_0) := St.cellB HB14.out 13 rfl 0 rfl; have z13_13_1 : (w14.alloc (.cells #[.slice Aq13_0 qr1.length cq13_0, .slice Aq13_1 qr2.length cq13_1] 28 (0, 0))).cell? ⟨w3.heap.size, 1, none⟩ = some (.slice Aq2_1 qr2.length cq2_1) := St.cellB HB14.out 13 rfl 1 rfl)
  go_wp2_with (go_at_call 14; (with_reducible refine (eqTableau_st_same HB14.out (HB14.out.readR 1 rfl) (HB14.out.readS 2 rfl) (HB14.out.readR 14 rfl) (HB14.out.readS 15 rfl) (by have f_ := F.out; omega) (by have f_ := F.out; omega) (fun r h_ => by have f_ := F.out; have := bulk_mem h_; omega)).mono ?_); rintro e w15 ⟨rfl, h_⟩; have H15 := Aside0.mk h_; clear h_ HB14 z13_0_0 z13_0_1 z13_13_0 z13_13_1; have z14_7_0 : w15.cell? ⟨w5.heap.size, 0, none⟩ = some (.slice Aq4_0 qr1.length cq4_0) := St.cellB H15.out 7 rfl 0 rfl; have z14_7_1 : w15.cell? ⟨w5.heap.size, 1, none⟩ = some (.slice Aq4_1 qr2.length cq4_1) := St.cellB H15.out 7 rfl 1 rfl)
  go_wp2_with (go_at_call 23; (refine (heldTableau_st H15.out qr1.length qr2 1 (H15.out.readR 8 rfl) (H15.out.readS 9 rfl) (by have f_ := F.out; omega) (by have f_ := F.out; omega) (by have f_ := F.out; omega) (by have f_ := F.out; omega)).mono ?_); rintro e w16 ⟨rfl, h_⟩; have H16 := Aside0.mk h_; clear h_ H15 z14_7_0 z14_7_1)
  go_ret
  exact ⟨by simp, H16.out.below⟩
end Go.Proofs.Ytljjjdgnpnnmoaa.Walk
