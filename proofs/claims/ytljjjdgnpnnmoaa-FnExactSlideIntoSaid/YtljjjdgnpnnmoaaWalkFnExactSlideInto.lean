/- The walk of the law on SlideInto, over what the law holds; condition: the law's pure statement, told below. -/
import Derived.Test.YtljjjdgnpnnmoaaF7
import Derived.Test.YtljjjdgnpnnmoaaQAll
import Derived.Deep.DeepCutAuto
import Derived.IntWalk
set_option linter.unusedVariables false
set_option linter.unusedSimpArgs false
namespace Go.Proofs.Ytljjjdgnpnnmoaa.Walk
open Go.RowKit Go.Proofs.Ytljjjdgnpnnmoaa.F Go.Proofs.YtljjjdgnpnnmoaaW.PrintWords Go.Proofs.YtljjjdgnpnnmoaaW.PrintLast Go.Proofs.YtljjjdgnpnnmoaaW.PrintMore Go.Proofs.Ytljjjdgnpnnmoaa.Q
section
variable {w W : World} {L : List Ob} {v v0 v1 : Value} {n p : List Int} {m : List (List Int)}
theorem removeBox_st {a : Int} {q : List Int} (h : St w W L) (hr : Reads (Kd.int .i64) W v n) (hl : n.length ≤ 1048576) (hb : isCorner n a = true) (hq : boxOff n a = q) :
    Calls Try.prog 48 #[v, .int .i64 a] W fun e W' => ∃ u ok, e = .returned (.tuple #[u, .bool true]) ∧ St w W' (obL 3 w ok u q :: L) := by
  subst hq
  obtain ⟨A, c, rfl, hc, hC⟩ := hr
  refine (removeBox_calls A c n a W hC hc hl hb).mono ?_
  rintro e W' ⟨u, rfl, hR, hB⟩
  obtain ⟨ok, h1⟩ := h.addL hB hR
  exact ⟨u, ok, rfl, h1⟩
theorem isTab_st {b : Bool} (h : St w W L) (h0 : Reads (Kd.int .i64) W v0 n) (h1 : Reads (Kd.slice 3 (Kd.int .i64)) W v1 m) (hn : n.length ≤ 1048576) (hm : m.length ≤ 1048576) (hbk : bulk m ≤ 1048576) (hb : isTab n m = b) :
    Calls Try.prog 38 #[.agg #[v0, v1]] W fun e W' => e = .returned (.bool b) ∧ St w W' L := by
  obtain ⟨A0, c0, rfl, hc0, hC0⟩ := h0
  obtain ⟨A1, c1, rfl, hc1, hC1⟩ := h1
  obtain ⟨K, hK⟩ := ev_eq (impl_IsTableau_ev n m hn hm (fun r hr => by have := bulk_mem hr; omega)) hb
  refine (impl_IsTableau.calls K A0 c0 n A1 c1 m b W hC0 hc0 hC1 hc1 (hK K (Nat.le_refl _))).mono ?_
  rintro e W' ⟨rfl, hB⟩
  exact ⟨rfl, h.quiet hB⟩
theorem grid_st {G : List (List Int)} (h : St w W L) (h0 : Reads (Kd.int .i64) W v0 n) (h1 : Reads (Kd.slice 3 (Kd.int .i64)) W v1 m) (ht : isTab n m = true) (hG : gridOf n m = G) :
    Calls Try.prog 49 #[.agg #[v0, v1]] W fun e W' => ∃ u ok, e = .returned u ∧ St w W' (obS (Kd.slice 3 (Kd.int .i64)) 22 w ok u G :: L) := by
  subst hG
  obtain ⟨A0, c0, rfl, hc0, hC0⟩ := h0
  obtain ⟨A1, c1, rfl, hc1, hC1⟩ := h1
  obtain ⟨h9, hq, _⟩ := isTab_cells ht
  refine (grid_calls A0 c0 n A1 c1 m W hC0 hc0 hC1 hc1 (hasShape_bd (isTab_iff.1 ht).1).1 h9 hq).mono ?_
  rintro e W' ⟨u, rfl, hS, hB⟩
  obtain ⟨ok, h1⟩ := h.addS hB hS
  exact ⟨u, ok, rfl, h1⟩
theorem cell_st {G : List (List Int)} (h : St w W L) (hr : Reads (Kd.slice 3 (Kd.int .i64)) W v G) (i c x : Int) (hl : G.length ≤ 1048576) (hq : ∀ q ∈ G, q.length ≤ 1048576) (hx : cellOf G i c = x) :
    Calls Try.prog 50 #[v, .int .i64 i, .int .i64 c] W fun e W' => e = .returned (.int .i64 x) ∧ St w W' L := by
  subst hx
  obtain ⟨A, ca, rfl, hc, hC⟩ := hr
  refine (impl_cell.calls A ca G i c _ W hC hc (impl_cell_eq G i c hl hq)).mono ?_
  rintro e W' ⟨rfl, hd⟩
  exact ⟨rfl, h.drawn hd⟩
theorem ofGrid_st {A0 : Option Addr} {c0 : Nat} {G : List (List Int)} {P : List (List Int)} (h : St w W L) (h0 : Reads (Kd.int .i64) W (.slice A0 n.length c0) n) (hr : Reads (Kd.slice 3 (Kd.int .i64)) W v G) (hn : n.length ≤ 1000) (hG : G.length ≤ 10) (hq : ∀ q ∈ G, q.length ≤ 10)
    (hat : ∀ i : Nat, i < G.length → 0 < (rd_L1 G (i : Int)).length → 0 ≤ at0 n (i : Int) ∧ at0 n (i : Int) ≤ ((rd_L1 G (i : Int)).length : Int)) (hP : partRows n G 0 = P) :
    Calls Try.prog 51 #[.slice A0 n.length c0, v] W fun e W' => ∃ u ok, e = .returned (.agg #[.slice A0 n.length c0, u]) ∧ St w W' (obS (Kd.slice 3 (Kd.int .i64)) 22 w ok u P :: L) := by
  subst hP
  obtain ⟨A1, c1, rfl, hc1, hC1⟩ := hr
  obtain ⟨hc0, hC0⟩ := Reads.C h0
  refine (ofGrid_calls A0 c0 n A1 c1 G W hC0 hc0 hC1 hc1 hn hG hq hat).mono ?_
  rintro e W' ⟨u, rfl, hS, hB⟩
  obtain ⟨ok, h1⟩ := h.addS hB hS
  exact ⟨u, ok, rfl, h1⟩
end
theorem rows_all {G : List (List Int)} {b : Nat} (h : ∀ r : Nat, r < G.length → (rd_L1 G (r : Int)).length ≤ b) : ∀ q ∈ G, q.length ≤ b := by
  intro q hq
  obtain ⟨j, hj, rfl⟩ := List.mem_iff_getElem.1 hq
  have := h j hj
  rwa [rows_eq G j hj] at this
def impl_SlideInto.f (l0_0 : List Int) (l0_1 : List (List Int)) (a1 : Int) : Option (List Int × List (List Int) × Int × Bool) := if l0_0.length ≤ 1048576 ∧ l0_1.length ≤ 1048576 ∧ bulk l0_1 ≤ 1048576 then some (slideIntoT l0_0 l0_1 a1) else none
set_option maxHeartbeats 16000000 in
set_option maxRecDepth 100000 in
theorem impl_SlideInto.calls (A0_0 : Option Addr) (c0_0 : Nat) (l0_0 : List Int) (A0_1 : Option Addr) (c0_1 : Nat) (l0_1 : List (List Int)) (a1 : Int) (r1 : List Int) (r2 : List (List Int)) (r3 : Int) (r4 : Bool) (w : World) (hr0_0 : Kd.C (Kd.int .i64) w A0_0 l0_0.length l0_0) (hc0_0 : l0_0.length ≤ c0_0) (hr0_1 : Kd.C (Kd.slice 3 (Kd.int .i64)) w A0_1 l0_1.length l0_1) (hc0_1 : l0_1.length ≤ c0_1) (h : impl_SlideInto.f l0_0 l0_1 a1 = some (r1, r2, r3, r4)) :
  Calls Try.prog 22 #[.agg #[.slice A0_0 l0_0.length c0_0, .slice A0_1 l0_1.length c0_1], .int .i64 a1] w fun e w' => ∃ v0_ v1_ : Value, e = .returned (.tuple #[.agg #[v0_, v1_], .int .i64 r3, .bool r4]) ∧ LR 3 w' w.heap.size (fun _ => True) v0_ r1 ∧ Kd.S (Kd.slice 3 (Kd.int .i64)) 22 w' w.heap.size (fun k_ => some k_ ≠ (v0_ : Value).ownBlock) v1_ r2 ∧ Below w.heap.size w w' := by
  unfold impl_SlideInto.f at h
  by_cases hb : l0_0.length ≤ 1048576 ∧ l0_1.length ≤ 1048576 ∧ bulk l0_1 ≤ 1048576
  case neg => rw [if_neg hb] at h; cases h
  rw [if_pos hb] at h
  replace h := Option.some.inj h
  obtain ⟨hn, hm, hbk⟩ := hb
  have C0 := Aside0.mk hr0_0
  have C1 := Aside0.mk hr0_1
  have H0 := Aside0.mk (St.start w)
  have BK := Aside0.mk hbk
  clear hr0_0 hr0_1 hbk
  obtain ⟨C, hC⟩ : ∃ C, cornersOf l0_0 = C := ⟨_, rfl⟩
  have hCl : C.length ≤ 1048576 := by have := cornersOf_le l0_0; rw [hC] at this; omega
  have hmem : ∀ b, isCorner l0_0 a1 = b → decide (a1 ∈ C) = b := fun b hb => by rw [← hC, cornersOf_mem, hb]
  have HC := Aside0.mk hC
  unfold slideIntoT at h
  cases ht : isTab l0_0 l0_1 with
  | false =>
    rw [if_neg (fun g => by rw [ht] at g; cases g.1)] at h
    obtain ⟨rfl, rfl, rfl, rfl⟩ : r1 = [] ∧ r2 = [] ∧ r3 = 0 ∧ r4 = false := by simpa [eq_comm] using h
    have HT := Aside0.mk ht
    clear h ht hC hmem
    go_enter Try.func22, Try.ntmps22
    go_wp2_with (first
      | ((with_reducible refine gate_dst (N := 2) rfl ?_); refine zX (N := 2) (cs := #[.slice A0_0 l0_0.length c0_0, .slice A0_1 l0_1.length c0_1]) (t := 28) ?_; intro b2 hb2 wb2 hxb2 hlb2; have H1 := Aside0.mk (St.addB H0.out hxb2 hb2 hlb2); clear hxb2 hlb2 hb2)
      | ((with_reducible refine gate_dst (N := 4) rfl ?_); refine zX (N := 4) (cs := #[.slice none 0 0, .slice none 0 0]) (t := 28) ?_; intro b4 hb4 wb4 hxb4 hlb4; have H2 := Aside0.mk (St.addB H1.out hxb4 hb4 hlb4); clear hxb4 hlb4 hb4; have z2_0 : wb4.cell? ⟨b2, 0, none⟩ = some (.slice A0_0 l0_0.length c0_0) := St.cellB H2.out 1 rfl 0 rfl; have z2_1 : wb4.cell? ⟨b2, 1, none⟩ = some (.slice A0_1 l0_1.length c0_1) := St.cellB H2.out 1 rfl 1 rfl)
      | (go_at_call 38; (with_reducible refine (isTab_st H2.out (H2.out.came C0.out hc0_0) (H2.out.came C1.out hc0_1) hn hm BK.out HT.out).mono ?_); rintro e w3 ⟨rfl, h_⟩; have H3 := Aside0.mk h_; clear h_; clear z2_0 z2_1; have z4_0 : w3.cell? ⟨b4, 0, none⟩ = some (.slice none 0 0) := St.cellB H3.out 0 rfl 0 rfl; have z4_1 : w3.cell? ⟨b4, 1, none⟩ = some (.slice none 0 0) := St.cellB H3.out 0 rfl 1 rfl; have f4_0 := blk_frozen (St.heapB H3.out 0 rfl) 0; have f4_1 := blk_frozen (St.heapB H3.out 0 rfl) 1))
    have HZ9 := Aside0.mk (St.putB (St.putB H3.out 0 rfl 0 (.slice none 0 0) rfl) 0 rfl 1 (.slice none 0 0) rfl)
    refine bodyPost_ret (results_ctt rfl _ _ b4 28 #[.slice none 0 0, .slice none 0 0] (0, 0) _ rfl (St.heapB HZ9.out 0 rfl) Try.underlying28 rfl (by kernel_rfl)) rfl ?_
    exact ⟨_, _, rfl, LR_nil _ _ _ _, Kd.S_nil _ _ _ _ _, HZ9.out.below⟩
  | true =>
  cases hk : isCorner l0_0 a1 with
  | false =>
    rw [if_neg (fun g => by rw [hk] at g; cases g.2)] at h
    obtain ⟨rfl, rfl, rfl, rfl⟩ : r1 = [] ∧ r2 = [] ∧ r3 = 0 ∧ r4 = false := by simpa [eq_comm] using h
    have HT := Aside0.mk ht
    have HM := Aside0.mk (hmem _ hk)
    clear h ht hC hmem hk
    go_enter Try.func22, Try.ntmps22
    go_wp2_with (first
      | ((with_reducible refine gate_dst (N := 2) rfl ?_); refine zX (N := 2) (cs := #[.slice A0_0 l0_0.length c0_0, .slice A0_1 l0_1.length c0_1]) (t := 28) ?_; intro b2 hb2 wb2 hxb2 hlb2; have H1 := Aside0.mk (St.addB H0.out hxb2 hb2 hlb2); clear hxb2 hlb2 hb2)
      | ((with_reducible refine gate_dst (N := 4) rfl ?_); refine zX (N := 4) (cs := #[.slice none 0 0, .slice none 0 0]) (t := 28) ?_; intro b4 hb4 wb4 hxb4 hlb4; have H2 := Aside0.mk (St.addB H1.out hxb4 hb4 hlb4); clear hxb4 hlb4 hb4; have z2_0 : wb4.cell? ⟨b2, 0, none⟩ = some (.slice A0_0 l0_0.length c0_0) := St.cellB H2.out 1 rfl 0 rfl; have z2_1 : wb4.cell? ⟨b2, 1, none⟩ = some (.slice A0_1 l0_1.length c0_1) := St.cellB H2.out 1 rfl 1 rfl)
      | (go_at_call 38; (with_reducible refine (isTab_st H2.out (H2.out.came C0.out hc0_0) (H2.out.came C1.out hc0_1) hn hm BK.out HT.out).mono ?_); rintro e w3 ⟨rfl, h_⟩; have H3 := Aside0.mk h_; clear h_; clear z2_0 z2_1; have z2_0 : w3.cell? ⟨b2, 0, none⟩ = some (.slice A0_0 l0_0.length c0_0) := St.cellB H3.out 1 rfl 0 rfl; have z2_1 : w3.cell? ⟨b2, 1, none⟩ = some (.slice A0_1 l0_1.length c0_1) := St.cellB H3.out 1 rfl 1 rfl)
      | (go_at_call 47; (with_reducible refine (corners_st H3.out (H3.out.came C0.out hc0_0) hn HC.out).mono ?_); rintro e w4 ⟨uc, okc, rfl, h_⟩; have H4 := Aside0.mk h_; clear h_; clear z2_0 z2_1; obtain ⟨Ac, cc, rfl, _, _⟩ := H4.out.readR 0 rfl)
      | (go_at_call 46; (with_reducible refine (contains_st H4.out (H4.out.readR 0 rfl) hCl a1 HM.out).mono ?_); rintro e w5 ⟨rfl, h_⟩; have H5 := Aside0.mk h_; clear h_; have z4_0 : w5.cell? ⟨b4, 0, none⟩ = some (.slice none 0 0) := St.cellB H5.out 1 rfl 0 rfl; have z4_1 : w5.cell? ⟨b4, 1, none⟩ = some (.slice none 0 0) := St.cellB H5.out 1 rfl 1 rfl; have f4_0 := blk_frozen (St.heapB H5.out 1 rfl) 0; have f4_1 := blk_frozen (St.heapB H5.out 1 rfl) 1))
    have HZ9 := Aside0.mk (St.putB (St.putB H5.out 1 rfl 0 (.slice none 0 0) rfl) 1 rfl 1 (.slice none 0 0) rfl)
    refine bodyPost_ret (results_ctt rfl _ _ b4 28 #[.slice none 0 0, .slice none 0 0] (0, 0) _ rfl (St.heapB HZ9.out 1 rfl) Try.underlying28 rfl (by kernel_rfl)) rfl ?_
    exact ⟨_, _, rfl, LR_nil _ _ _ _, Kd.S_nil _ _ _ _ _, HZ9.out.below⟩
  | true =>
  rw [if_pos ⟨ht, hk⟩] at h
  have hM := hmem _ hk
  obtain ⟨i0, q0, rfl, hq0, hPar, hpp, hI0, hsq, hin⟩ := in_start ht hk
  obtain ⟨Q, hQ⟩ : ∃ Q, boxOff l0_0 (i0 : Int) = Q := ⟨_, rfl⟩
  obtain ⟨ad, hAb, hcad⟩ := Kd.at_int C0.out (i0 : Int) (by omega) (by omega)
  subst hAb
  rw [hQ] at h hPar hpp hI0
  rw [hq0] at h
  obtain ⟨G, hG⟩ : ∃ G, gridOf l0_0 l0_1 = G := ⟨_, rfl⟩
  rw [hG] at h hI0
  have hQ9 := (isPartition_bd hpp).2.1
  have hx1 := (isPartition_bd hPar.hn).2.2 _ (rd_mem l0_0 i0 hin)
  have hiG := hI0.i1
  have hGl : G.length ≤ 9 := by have := hI0.len; have := hI0.ol; omega
  obtain ⟨row0, hrow0⟩ : ∃ r, G[i0] = r := ⟨_, rfl⟩
  obtain ⟨x9, hx9⟩ : ∃ x, x = rd l0_0 (i0 : Int) := ⟨_, rfl⟩
  rw [← hx9] at hq0 hx1
  have HT := Aside0.mk ht
  have HB := Aside0.mk hk
  have HM := Aside0.mk hM
  have HQ := Aside0.mk hQ
  have HG := Aside0.mk hG
  have HH := Aside0.mk h
  have HI0 := Aside0.mk hI0
  have HPA := Aside0.mk hPar
  have HPP := Aside0.mk hpp
  have HXQ := Aside0.mk hq0
  have HX9 := Aside0.mk hx9
  have HR0 := Aside0.mk hrow0
  have hx0 : 1 ≤ x9 ∧ x9 ≤ 9 := by omega
  have hwr : IntKind.i64.wrap (x9 - 1) = x9 - 1 := IntWalk.i64_in _ (by omega)
  have hinz : (i0 : Int) < (l0_0.length : Int) := by omega
  clear h ht hk hM hmem hC hQ hG hI0 hPar hpp hq0 hx9 hx1 hrow0 hsq hcad
  go_enter Try.func22, Try.ntmps22
  go_wp2_with (first
    | ((with_reducible refine gate_dst (N := 2) rfl ?_); refine zX (N := 2) (cs := #[.slice (some ad) l0_0.length c0_0, .slice A0_1 l0_1.length c0_1]) (t := 28) ?_; intro b2 hb2 wb2 hxb2 hlb2; have H1 := Aside0.mk (St.addB H0.out hxb2 hb2 hlb2); clear hxb2 hlb2 hb2)
    | ((with_reducible refine gate_dst (N := 4) rfl ?_); refine zX (N := 4) (cs := #[.slice none 0 0, .slice none 0 0]) (t := 28) ?_; intro b4 hb4 wb4 hxb4 hlb4; have H2 := Aside0.mk (St.addB H1.out hxb4 hb4 hlb4); clear hxb4 hlb4 hb4; have z2_0 : wb4.cell? ⟨b2, 0, none⟩ = some (.slice (some ad) l0_0.length c0_0) := St.cellB H2.out 1 rfl 0 rfl; have z2_1 : wb4.cell? ⟨b2, 1, none⟩ = some (.slice A0_1 l0_1.length c0_1) := St.cellB H2.out 1 rfl 1 rfl)
    | (go_at_call 38; (with_reducible refine (isTab_st H2.out (H2.out.came C0.out hc0_0) (H2.out.came C1.out hc0_1) hn hm BK.out HT.out).mono ?_); rintro e w3 ⟨rfl, h_⟩; have H3 := Aside0.mk h_; clear h_; clear z2_0 z2_1; have z2_0 : w3.cell? ⟨b2, 0, none⟩ = some (.slice (some ad) l0_0.length c0_0) := St.cellB H3.out 1 rfl 0 rfl; have z2_1 : w3.cell? ⟨b2, 1, none⟩ = some (.slice A0_1 l0_1.length c0_1) := St.cellB H3.out 1 rfl 1 rfl)
    | (go_at_call 47; (with_reducible refine (corners_st H3.out (H3.out.came C0.out hc0_0) hn HC.out).mono ?_); rintro e w4 ⟨uc, okc, rfl, h_⟩; have H4 := Aside0.mk h_; clear h_; clear z2_0 z2_1; obtain ⟨Ac, cc, rfl, _, _⟩ := H4.out.readR 0 rfl)
    | (go_at_call 46; (with_reducible refine (contains_st H4.out (H4.out.readR 0 rfl) hCl (i0 : Int) HM.out).mono ?_); rintro e w5 ⟨rfl, h_⟩; have H5 := Aside0.mk h_; clear h_; have z2_0 : w5.cell? ⟨b2, 0, none⟩ = some (.slice (some ad) l0_0.length c0_0) := St.cellB H5.out 2 rfl 0 rfl; have z2_1 : w5.cell? ⟨b2, 1, none⟩ = some (.slice A0_1 l0_1.length c0_1) := St.cellB H5.out 2 rfl 1 rfl)
    | (go_at_call 48; (with_reducible refine (removeBox_st H5.out (H5.out.came C0.out hc0_0) hn HB.out HQ.out).mono ?_); rintro e w6 ⟨ur, okr, rfl, h_⟩; have H6 := Aside0.mk h_; clear h_; clear z2_0 z2_1; obtain ⟨Ar, cr, rfl, _, _⟩ := H6.out.readL 0 rfl; have z2_0 : w6.cell? ⟨b2, 0, none⟩ = some (.slice (some ad) l0_0.length c0_0) := St.cellB H6.out 3 rfl 0 rfl; have z2_1 : w6.cell? ⟨b2, 1, none⟩ = some (.slice A0_1 l0_1.length c0_1) := St.cellB H6.out 3 rfl 1 rfl)
    | (go_at_call 49; (with_reducible refine (grid_st H6.out (H6.out.came C0.out hc0_0) (H6.out.came C1.out hc0_1) HT.out HG.out).mono ?_); rintro e w7 ⟨ug, okg, rfl, h_⟩; have H7 := Aside0.mk h_; clear h_; clear z2_0 z2_1; have z2_0 : w7.cell? ⟨b2, 0, none⟩ = some (.slice (some ad) l0_0.length c0_0) := St.cellB H7.out 4 rfl 0 rfl; have z2_1 : w7.cell? ⟨b2, 1, none⟩ = some (.slice A0_1 l0_1.length c0_1) := St.cellB H7.out 4 rfl 1 rfl))
  obtain ⟨ad_, hAb, hcb⟩ := Kd.at_int (Reads.C (H7.out.came C0.out hc0_0)).2 (i0 : Int) (by omega) (by omega)
  injection hAb with hAb
  subst hAb
  rw [Int.toNat_natCast, ← HX9.out] at hcb
  obtain ⟨g, ch, A1, k1, hv, _⟩ := St.lendS H7.out 0 rfl i0 hiG HR0.out
  subst hv
  go_region
  go_wp2
  have H11 := Aside0.mk (H7.out.quiet (below_drew (Below.refl _ _)))
  clear H7 hcb z2_0 z2_1
  go_loopg [10, 11] 100 (fun kq v10 v11 wr => ∃ (f i c : Nat) (G' : List (List Int)) (ok : Nat → Prop), f ≤ kq ∧ 18 < f + i + c ∧ v10 = .int .i64 i ∧ v11 = .int .i64 c ∧ Aside0 (inWalk 100 G (i0 : Int) (q0 : Int) = inWalk f G' (i : Int) (c : Int)) ∧ Aside0 (InInv l0_0 Q (outerOf l0_0 l0_1) i0 G' i c) ∧ Aside0 (G'.length = G.length) ∧ Aside0 (St w wr [obS (Kd.slice 3 (Kd.int .i64)) 22 w ok (.slice (some ⟨g, 0, none⟩) G.length ch) G', obL 3 w okr (.slice Ar Q.length cr) Q, obR (Kd.int .i64) 3 w okc (.slice Ac C.length cc) C, obB b4 #[.slice none 0 0, .slice none 0 0] 28, obB b2 #[.slice (some ad) l0_0.length c0_0, .slice A0_1 l0_1.length c0_1] 28]))
  case atStart => exact ⟨100, i0, q0, _, okg, by omega, by omega, rfl, by rw [HXQ.out], ⟨rfl⟩, HI0, ⟨rfl⟩, H11⟩
  case round =>
    clear H11 HI0
    obtain ⟨f, i, c, G', ok, hfk, hic, rfl, rfl, HW, HI, HLN, HS⟩ := hrel
    have hi1 := HI.out.i1
    have hl9 := HI.out.len
    have ho9 := HI.out.ol
    have hrow9 := (HI.out.row i hi1).2.2.1
    have hc1 := HI.out.c1
    have hi9 : i ≤ 9 := by omega
    have hc9 : c ≤ 9 := by omega
    obtain ⟨f, rfl⟩ : ∃ f', f = f' + 1 := ⟨f - 1, by omega⟩
    have HQ' : Aside0 (G'.length ≤ 1048576 ∧ ∀ q ∈ G', q.length ≤ 1048576) := ⟨by omega, rows_all (fun r hr => by have := (HI.out.row r hr).2.2.1; omega)⟩
    obtain ⟨row, hrow⟩ : ∃ r, G'[i] = r := ⟨_, rfl⟩
    have hrr : rd_L1 G' (i : Int) = row := by rw [rows_eq G' i hi1]; exact hrow
    rw [hrr] at hc1 hrow9
    obtain ⟨xl, hxl⟩ : ∃ x, cellOf G' (i : Int) ((c : Int) + 1) = x := ⟨_, rfl⟩
    obtain ⟨xu, hxu⟩ : ∃ x, cellOf G' ((i : Int) + 1) (c : Int) = x := ⟨_, rfl⟩
    have HXL := Aside0.mk hxl
    have HXU := Aside0.mk hxu
    have HROW := Aside0.mk hrow
    have HRR := Aside0.mk hrr
    have HI1 := Aside0.mk hi1
    have hcrz : (c : Int) < (row.length : Int) := by omega
    have hiGz : (i : Int) < (G.length : Int) := by have := HLN.out; omega
    have HN9 : Aside0 (l0_0.length ≤ 1048576) := ⟨hn⟩
    clear hxl hxu hrow hrr hl9 ho9
    by_cases hz : xl = 0 ∧ xu = 0
    · have hb1 : (xl == 0) = true := beq_iff_eq.mpr hz.1
      have hb2 : (xu == 0) = true := beq_iff_eq.mpr hz.2
      have hw : inFin Q (inWalk (f + 1) G' (i : Int) (c : Int)) = (r1, r2, r3, r4) := by rw [← HW.out]; exact HH.out
      have ew : inWalk (f + 1) G' (i : Int) (c : Int) = (G', (i : Int), (c : Int)) := by
        simp only [inWalk]
        rw [HXL.out, HXU.out, if_pos hz]
      rw [ew] at hw
      unfold inFin cutRow at hw
      simp only [Int.toNat_natCast] at hw
      rw [HRR.out] at hw
      obtain ⟨e1, e2, e3, rfl⟩ : Q = r1 ∧ partRows Q (G'.set i (row.take c)) 0 = r2 ∧ (i : Int) = r3 ∧ true = r4 := by simpa using hw
      subst e1 e3
      have HP := Aside0.mk e2
      have hrs : ∀ r : Nat, rd_L1 (G'.set i (row.take c)) (r : Int) = if i = r then row.take c else rd_L1 G' (r : Int) := fun r => rows_set G' i r _ hi1
      have HAT : Aside0 (∀ r : Nat, r < (G'.set i (row.take c)).length → 0 < (rd_L1 (G'.set i (row.take c)) (r : Int)).length → 0 ≤ at0 Q (r : Int) ∧ at0 Q (r : Int) ≤ ((rd_L1 (G'.set i (row.take c)) (r : Int)).length : Int)) := ⟨fun r hr _ => by
        refine ⟨(at0_bd HPP.out _).1, ?_⟩
        rw [List.length_set] at hr
        rw [hrs r]
        by_cases e : i = r
        · subst e
          rw [if_pos rfl, List.length_take]
          have := HI.out.hole.1
          omega
        · rw [if_neg e]
          exact (HI.out.row r hr).2.2.2⟩
      have HG10 : Aside0 ((G'.set i (row.take c)).length ≤ 10 ∧ ∀ q ∈ G'.set i (row.take c), q.length ≤ 10) := ⟨by rw [List.length_set]; have := HI.out.len; have := HI.out.ol; omega, rows_all (fun r hr => by
        rw [List.length_set] at hr
        rw [hrs r]
        by_cases e : i = r
        · subst e; rw [if_pos rfl, List.length_take]; omega
        · rw [if_neg e]; have := (HI.out.row r hr).2.2.1; omega)⟩
      have hQ1000 : Q.length ≤ 1000 := by omega
      clear hz ew hw e2 hrs
      go_wp2_with (first
        | (go_at_call 50; (with_reducible refine (cell_st HS.out (HS.out.readS 0 rfl) (i : Int) ((c : Int) + 1) xl HQ'.out.1 HQ'.out.2 HXL.out).mono ?_); rintro e w12 ⟨rfl, h_⟩; have H12 := Aside0.mk h_; clear h_)
        | (go_at_call 50; (with_reducible refine (cell_st H12.out (H12.out.readS 0 rfl) ((i : Int) + 1) (c : Int) xu HQ'.out.1 HQ'.out.2 HXU.out).mono ?_); rintro e w13 ⟨rfl, h_⟩; have H13 := Aside0.mk h_; clear h_; obtain ⟨g_, c_, A1, k1, hv, hgb, hcg, hfg, hle1, hrd, hne, hput, hcut⟩ := St.lendS H13.out 0 rfl i HI1.out HROW.out; injection hv with e1 e2_ e3_; clear e2_ e3_; injection e1 with e1; injection e1 with e1 _ _; subst e1; obtain ⟨g1, rfl, hg1⟩ := hne (by omega); have hst := hcut c (by omega); have HCT := Aside0.mk hst; have hck : (c : Int) ≤ (k1 : Int) := (by omega); clear hput hst hne hrd hcut)
        | (go_at_call 51; (with_reducible refine (ofGrid_st HCT.out (HCT.out.readL 1 rfl) (HCT.out.readS 0 rfl) hQ1000 HG10.out.1 HG10.out.2 HAT.out HP.out).mono ?_); rintro e w15 ⟨uo, oko, rfl, h_⟩; have H15 := Aside0.mk h_; clear h_; obtain ⟨Ao, co, rfl, _, _⟩ := H15.out.readS 0 rfl; have z4_0 : w15.cell? ⟨b4, 0, none⟩ = some (.slice none 0 0) := St.cellB H15.out 4 rfl 0 rfl; have z4_1 : w15.cell? ⟨b4, 1, none⟩ = some (.slice none 0 0) := St.cellB H15.out 4 rfl 1 rfl; have f4_0 := blk_frozen (St.heapB H15.out 4 rfl) 0; have f4_1 := blk_frozen (St.heapB H15.out 4 rfl) 1))
      have HZ9 := Aside0.mk (St.putB (St.putB H15.out 4 rfl 0 (.slice Ar Q.length cr) rfl) 4 rfl 1 (.slice Ao r2.length co) rfl)
      refine bodyPost_ret (results_ctt rfl _ _ b4 28 #[.slice Ar Q.length cr, .slice Ao r2.length co] (0, 0) _ rfl (St.heapB HZ9.out 4 rfl) Try.underlying28 rfl (by kernel_rfl)) rfl ?_
      exact ⟨_, _, rfl, St.giveSL HZ9.out 2 0 (by decide) rfl rfl⟩
    · have h3 := HI.out.next HPA.out (by rw [HXL.out, HXU.out]; exact hz)
      rw [HXL.out, HXU.out] at h3
      have hset : ∀ x : Int, setAt G' (i : Int) (c : Int) x = G'.set i (row.set c x) := fun x => by unfold setAt; rw [HRR.out, Int.toNat_natCast, Int.toNat_natCast]
      have HSET := Aside0.mk hset
      have HZ := Aside0.mk hz
      clear hset
      rcases h3 with ⟨hle, hxp, hi2, hI⟩ | ⟨hlt, hxp, hc2, hI⟩
      · have HW2 : Aside0 (inWalk 100 G (i0 : Int) (q0 : Int) = inWalk f (setAt G' (i : Int) (c : Int) xu) ((i + 1 : Nat) : Int) (c : Int)) := ⟨by
          rw [HW.out]
          simp only [inWalk]
          rw [HXL.out, HXU.out, if_neg HZ.out, if_pos hle, Int.natCast_add, Int.natCast_one]⟩
        have HI2 := Aside0.mk hI
        have HLE := Aside0.mk hle
        have ei : Value.int .i64 ((i : Int) + 1) = Value.int .i64 ((i + 1 : Nat) : Int) := by rw [Int.natCast_add, Int.natCast_one]
        have EI := Aside0.mk ei
        have hp0 : decide (0 < xu) = true := decide_eq_true hxp
        have hb2 : (xu == 0) = false := beq_eq_false_iff_ne.mpr (by omega)
        clear hI ei hz HW HI hle
        by_cases hl0 : xl = 0
        all_goals first | have hb1 : (xl == 0) = true := beq_iff_eq.mpr hl0 | have hb1 : (xl == 0) = false := beq_eq_false_iff_ne.mpr hl0
        all_goals try have hp1 : decide (xu ≤ xl) = true := decide_eq_true (by have := HLE.out; omega)
        all_goals clear hl0
        all_goals go_wp2_with (first
          | (go_at_call 50; (with_reducible refine (cell_st HS.out (HS.out.readS 0 rfl) (i : Int) ((c : Int) + 1) xl HQ'.out.1 HQ'.out.2 HXL.out).mono ?_); rintro e w12 ⟨rfl, h_⟩; have H12 := Aside0.mk h_; clear h_)
          | (go_at_call 50; (with_reducible refine (cell_st H12.out (H12.out.readS 0 rfl) ((i : Int) + 1) (c : Int) xu HQ'.out.1 HQ'.out.2 HXU.out).mono ?_); rintro e w13 ⟨rfl, h_⟩; have H13 := Aside0.mk h_; clear h_; obtain ⟨g_, c_, A1, k1, hv, hgb, hcg, hfg, hle1, hrd, hne, hput, hcut⟩ := St.lendS H13.out 0 rfl i HI1.out HROW.out; injection hv with e1 e2_ e3_; clear e2_ e3_; injection e1 with e1; injection e1 with e1 _ _; subst e1; obtain ⟨g1, rfl, hg1⟩ := hne (by omega); obtain ⟨hcc, hfc, hst⟩ := hput c g1 hc1 rfl; have HST2 := Aside0.mk hst; clear hput hst hne hrd hfg hcut))
        all_goals go_roundg f
        all_goals first
          | omega
          | exact ⟨f, i + 1, c, setAt G' (i : Int) (c : Int) xu, ok, by omega, by omega, EI.out, rfl, HW2, HI2, ⟨by rw [setAt_length]; exact HLN.out⟩, ⟨by rw [HSET.out]; exact HST2.out xu⟩⟩
      · have HW2 : Aside0 (inWalk 100 G (i0 : Int) (q0 : Int) = inWalk f (setAt G' (i : Int) (c : Int) xl) (i : Int) ((c + 1 : Nat) : Int)) := ⟨by
          rw [HW.out]
          simp only [inWalk]
          rw [HXL.out, HXU.out, if_neg HZ.out, if_neg hlt, Int.natCast_add, Int.natCast_one]⟩
        have HI2 := Aside0.mk hI
        have ei : Value.int .i64 ((c : Int) + 1) = Value.int .i64 ((c + 1 : Nat) : Int) := by rw [Int.natCast_add, Int.natCast_one]
        have EI := Aside0.mk ei
        have hb1 : (xl == 0) = false := beq_eq_false_iff_ne.mpr (by omega)
        clear hI ei hz HW HI
        by_cases hp : 0 < xu
        all_goals first | have hp0 : decide (0 < xu) = true := decide_eq_true hp | have hp0 : decide (0 < xu) = false := decide_eq_false hp
        all_goals try have hp1 : decide (xu ≤ xl) = false := decide_eq_false (fun e => hlt (.inr ⟨hp, e⟩))
        all_goals clear hp hlt
        all_goals go_wp2_with (first
          | (go_at_call 50; (with_reducible refine (cell_st HS.out (HS.out.readS 0 rfl) (i : Int) ((c : Int) + 1) xl HQ'.out.1 HQ'.out.2 HXL.out).mono ?_); rintro e w12 ⟨rfl, h_⟩; have H12 := Aside0.mk h_; clear h_)
          | (go_at_call 50; (with_reducible refine (cell_st H12.out (H12.out.readS 0 rfl) ((i : Int) + 1) (c : Int) xu HQ'.out.1 HQ'.out.2 HXU.out).mono ?_); rintro e w13 ⟨rfl, h_⟩; have H13 := Aside0.mk h_; clear h_; obtain ⟨g_, c_, A1, k1, hv, hgb, hcg, hfg, hle1, hrd, hne, hput, hcut⟩ := St.lendS H13.out 0 rfl i HI1.out HROW.out; injection hv with e1 e2_ e3_; clear e2_ e3_; injection e1 with e1; injection e1 with e1 _ _; subst e1; obtain ⟨g1, rfl, hg1⟩ := hne (by omega); obtain ⟨hcc, hfc, hst⟩ := hput c g1 hc1 rfl; have HST2 := Aside0.mk hst; clear hput hst hne hrd hfg hcut))
        all_goals go_roundg f
        all_goals first
          | omega
          | exact ⟨f, i, c + 1, setAt G' (i : Int) (c : Int) xl, ok, by omega, by omega, rfl, EI.out, HW2, HI2, ⟨by rw [setAt_length]; exact HLN.out⟩, ⟨by rw [HSET.out]; exact HST2.out xl⟩⟩

theorem spec_SlideInto_st {w W : World} {L : List Ob} {v0_0 v0_1 : Value} (l0_0 : List Int) (l0_1 : List (List Int)) (a1 : Int) {r1 : List Int} {r2 : List (List Int)} {r3 : Int} {r4 : Bool} (h : St w W L) (hr0_0 : Reads (Kd.int .i64) W v0_0 l0_0) (hr0_1 : Reads (Kd.slice 3 (Kd.int .i64)) W v0_1 l0_1) (hE : Ev (fun k => spec_SlideInto.f k l0_0 l0_1 a1) (r1, r2, r3, r4)) :
    Calls Try.prog 21 #[.agg #[v0_0, v0_1], .int .i64 a1] W fun e W' => ∃ v0_ v1_ : Value, ∃ ok0 ok1, e = .returned (.tuple #[.agg #[v0_, v1_], .int .i64 r3, .bool r4]) ∧ St w W' (obR (Kd.int .i64) 3 w ok0 v0_ r1 :: obS (Kd.slice 3 (Kd.int .i64)) 22 w ok1 v1_ r2 :: L) := by
  obtain ⟨A0_0, c0_0, rfl, hc0_0, hC0_0⟩ := hr0_0
  obtain ⟨A0_1, c0_1, rfl, hc0_1, hC0_1⟩ := hr0_1
  obtain ⟨K, hK⟩ := hE
  refine (spec_SlideInto.calls K A0_0 c0_0 l0_0 A0_1 c0_1 l0_1 a1 r1 r2 r3 r4 W hC0_0 hc0_0 hC0_1 hc0_1 (hK K (Nat.le_refl _))).mono ?_
  rintro e W' ⟨v0_, v1_, rfl, o0, o1, hb⟩
  obtain ⟨ok0, ok1, h1⟩ := St.addRS rfl h hb o0 o1
  exact ⟨v0_, v1_, ok0, ok1, rfl, h1⟩
theorem impl_SlideInto_st {w W : World} {L : List Ob} {v0_0 v0_1 : Value} (l0_0 : List Int) (l0_1 : List (List Int)) (a1 : Int) {r1 : List Int} {r2 : List (List Int)} {r3 : Int} {r4 : Bool} (h : St w W L) (hr0_0 : Reads (Kd.int .i64) W v0_0 l0_0) (hr0_1 : Reads (Kd.slice 3 (Kd.int .i64)) W v0_1 l0_1) (hE : impl_SlideInto.f l0_0 l0_1 a1 = some (r1, r2, r3, r4)) :
    Calls Try.prog 22 #[.agg #[v0_0, v0_1], .int .i64 a1] W fun e W' => ∃ v0_ v1_ : Value, ∃ ok0 ok1, e = .returned (.tuple #[.agg #[v0_, v1_], .int .i64 r3, .bool r4]) ∧ St w W' (obL  3 w ok0 v0_ r1 :: obS (Kd.slice 3 (Kd.int .i64)) 22 w ok1 v1_ r2 :: L) := by
  obtain ⟨A0_0, c0_0, rfl, hc0_0, hC0_0⟩ := hr0_0
  obtain ⟨A0_1, c0_1, rfl, hc0_1, hC0_1⟩ := hr0_1
  refine (impl_SlideInto.calls A0_0 c0_0 l0_0 A0_1 c0_1 l0_1 a1 r1 r2 r3 r4 W hC0_0 hc0_0 hC0_1 hc0_1 hE).mono ?_
  rintro e W' ⟨v0_, v1_, rfl, o0, o1, hb⟩
  obtain ⟨ok0, ok1, h1⟩ := St.addLS h hb o0 o1
  exact ⟨v0_, v1_, ok0, ok1, rfl, h1⟩
def FnExactSlideInto.Pure : Prop := ∀ (l0_0 : List Int) (l0_1 : List (List Int)) (a1 : Int), (l0_0.length ≤ maxLen) → (∀ n ∈ l0_0, (Lit.int .i64 n).wf = true) → (l0_1.length ≤ maxLen) → (∀ r ∈ l0_1, r.length ≤ maxLen) → (∀ r ∈ l0_1, ∀ n ∈ r, (Lit.int .i64 n).wf = true) → ((Lit.int .i64 a1).wf = true) → (l0_0.length ≤ 1048576) → (l0_1.length ≤ 1048576 ∧ bulk l0_1 ≤ 1048576) → ∃ (qr1 : List Int) (qr2 : List (List Int)) (qr3 : Int) (qr4 : Bool), Ev (fun k => spec_SlideInto.f k l0_0 l0_1 a1) (qr1, qr2, qr3, qr4) ∧ impl_SlideInto.f l0_0 l0_1 a1 = some (qr1, qr2, qr3, qr4) ∧ qr1.length ≤ 576460752303423488 ∧ qr2.length ≤ 576460752303423488 ∧ bulk qr2 ≤ 576460752303423488
set_option maxHeartbeats 8000000 in
set_option maxRecDepth 100000 in
theorem FnExactSlideInto.walk (P : FnExactSlideInto.Pure) (A0_0 : Option Addr) (c0_0 : Nat) (l0_0 : List Int) (A0_1 : Option Addr) (c0_1 : Nat) (l0_1 : List (List Int)) (a1 : Int) (w : World) (hr0_0 : Kd.C (Kd.int .i64) w A0_0 l0_0.length l0_0) (hc0_0 : l0_0.length ≤ c0_0) (hr0_1 : Kd.C (Kd.slice 3 (Kd.int .i64)) w A0_1 l0_1.length l0_1) (hc0_1 : l0_1.length ≤ c0_1) (m0_0 : l0_0.length ≤ maxLen) (y0_0 : ∀ n ∈ l0_0, (Lit.int .i64 n).wf = true) (m0_1 : l0_1.length ≤ maxLen) (n0_1 : ∀ r ∈ l0_1, r.length ≤ maxLen) (y0_1 : ∀ r ∈ l0_1, ∀ n ∈ r, (Lit.int .i64 n).wf = true) (y1 : (Lit.int .i64 a1).wf = true) :
    Calls Try.prog 5 #[.agg #[.slice A0_0 l0_0.length c0_0, .slice A0_1 l0_1.length c0_1], .int .i64 a1] w fun e w' => e = .returned (.bool true) ∧ Below w.heap.size w w' := by
  have H0 := Aside0.mk (St.boxAt (St.start w) #[.slice A0_0 l0_0.length c0_0, .slice A0_1 l0_1.length c0_1] 25 (b := w.heap.size) (by simp only [World.size_alloc]))
  have y0_0_0 : (w.alloc (.cells #[.slice A0_0 l0_0.length c0_0, .slice A0_1 l0_1.length c0_1] 25 (0, 0))).cell? ⟨w.heap.size, 0, none⟩ = some (.slice A0_0 l0_0.length c0_0) := St.cellB H0.out 0 rfl 0 rfl
  have y0_0_1 : (w.alloc (.cells #[.slice A0_0 l0_0.length c0_0, .slice A0_1 l0_1.length c0_1] 25 (0, 0))).cell? ⟨w.heap.size, 1, none⟩ = some (.slice A0_1 l0_1.length c0_1) := St.cellB H0.out 0 rfl 1 rfl
  have C0_0 := Aside0.mk hr0_0
  have C0_1 := Aside0.mk hr0_1
  obtain ⟨z0, hz0, hp0⟩ := szTableau_evb l0_0 l0_1 1048576 (by omega) (by omega) m0_0 m0_1 n0_1
  have Z0 := Aside0.mk hz0
  clear hz0
  by_cases s0 : z0 < 0
  case pos =>
    have b0 : decide (z0 < 0) = true := decide_eq_true s0
    clear s0 hp0 hr0_0 hr0_1
    go_enter Try.func5, Try.ntmps5
    go_wp2_with (go_at_call 10; (with_reducible refine (szTableau_st H0.out (H0.out.came C0_0.out hc0_0) (H0.out.came C0_1.out hc0_1) Z0.out).mono ?_); rintro e w1 ⟨rfl, h_⟩; have H1 := Aside0.mk h_; clear h_ H0 y0_0_0 y0_0_1; have y1_0_0 : w1.cell? ⟨w.heap.size, 0, none⟩ = some (.slice A0_0 l0_0.length c0_0) := St.cellB H1.out 0 rfl 0 rfl; have y1_0_1 : w1.cell? ⟨w.heap.size, 1, none⟩ = some (.slice A0_1 l0_1.length c0_1) := St.cellB H1.out 0 rfl 1 rfl)
    go_wp2
    go_ret
    exact ⟨by simp, H1.out.below⟩
  have b0 : decide (z0 < 0) = false := decide_eq_false s0
  obtain ⟨qr1, qr2, qr3, qr4, hs, hi, e0, e1⟩ := P l0_0 l0_1 a1 m0_0 y0_0 m0_1 n0_1 y0_1 y1 (by omega) ⟨by omega, by omega⟩
  have F := Aside0.mk (And.intro (by omega : l0_0.length ≤ 1048576) (And.intro (⟨by omega, by omega⟩ : l0_1.length ≤ 1048576 ∧ bulk l0_1 ≤ 1048576) (And.intro e0 (e1))))
  have Hs := Aside0.mk hs
  have Hi := Aside0.mk hi
  clear hs hi e0 e1 hr0_0 hr0_1 m0_0 y0_0 m0_1 n0_1 y0_1 y1
  clear P s0 hp0
  go_enter Try.func5, Try.ntmps5
  go_wp2_with (go_at_call 10; (with_reducible refine (szTableau_st H0.out (H0.out.came C0_0.out hc0_0) (H0.out.came C0_1.out hc0_1) Z0.out).mono ?_); rintro e w1 ⟨rfl, h_⟩; have H1 := Aside0.mk h_; clear h_ H0 y0_0_0 y0_0_1; have y1_0_0 : w1.cell? ⟨w.heap.size, 0, none⟩ = some (.slice A0_0 l0_0.length c0_0) := St.cellB H1.out 0 rfl 0 rfl; have y1_0_1 : w1.cell? ⟨w.heap.size, 1, none⟩ = some (.slice A0_1 l0_1.length c0_1) := St.cellB H1.out 0 rfl 1 rfl)
  go_wp2_with (go_at_call 12; (with_reducible refine (toTableau_st H1.out (H1.out.came C0_0.out hc0_0) (H1.out.came C0_1.out hc0_1) (by have f_ := F.out; omega) (by have f_ := F.out; omega) (fun r h_ => by have f_ := F.out; have := bulk_mem h_; omega)).mono ?_); rintro e w2 ⟨v1_0, v1_1, ok1_0, ok1_1, rfl, h_⟩; have H2 := Aside0.mk h_; clear h_ H1 y1_0_0 y1_0_1; obtain ⟨Aq1_0, cq1_0, rfl, _, _⟩ := H2.out.readR 0 rfl; obtain ⟨Aq1_1, cq1_1, rfl, _, _⟩ := H2.out.readS 1 rfl)
  go_wp2_with (go_at_call 21; (with_reducible refine (spec_SlideInto_st _ _ _ H2.out (H2.out.readR 0 rfl) (H2.out.readS 1 rfl) Hs.out).mono ?_); rintro e w3 ⟨v2_0, v2_1, ok2_0, ok2_1, rfl, h_⟩; have H3 := Aside0.mk h_; clear h_ H2; obtain ⟨Aq2_0, cq2_0, rfl, _, _⟩ := H3.out.readR 0 rfl; obtain ⟨Aq2_1, cq2_1, rfl, _, _⟩ := H3.out.readS 1 rfl; have HB3 := Aside0.mk (St.box H3.out #[.slice Aq2_0 qr1.length cq2_0, .slice Aq2_1 qr2.length cq2_1] 28); clear H3; have z2_5_0 : (w3.alloc (.cells #[.slice Aq2_0 qr1.length cq2_0, .slice Aq2_1 qr2.length cq2_1] 28 (0, 0))).cell? ⟨w.heap.size, 0, none⟩ = some (.slice A0_0 l0_0.length c0_0) := St.cellB HB3.out 5 rfl 0 rfl; have z2_5_1 : (w3.alloc (.cells #[.slice Aq2_0 qr1.length cq2_0, .slice Aq2_1 qr2.length cq2_1] 28 (0, 0))).cell? ⟨w.heap.size, 1, none⟩ = some (.slice A0_1 l0_1.length c0_1) := St.cellB HB3.out 5 rfl 1 rfl)
  go_wp2_with (go_at_call 12; (with_reducible refine (toTableau_st HB3.out (HB3.out.came C0_0.out hc0_0) (HB3.out.came C0_1.out hc0_1) (by have f_ := F.out; omega) (by have f_ := F.out; omega) (fun r h_ => by have f_ := F.out; have := bulk_mem h_; omega)).mono ?_); rintro e w4 ⟨v3_0, v3_1, ok3_0, ok3_1, rfl, h_⟩; have H4 := Aside0.mk h_; clear h_ HB3 z2_5_0 z2_5_1; obtain ⟨Aq3_0, cq3_0, rfl, _, _⟩ := H4.out.readR 0 rfl; obtain ⟨Aq3_1, cq3_1, rfl, _, _⟩ := H4.out.readS 1 rfl; have HB4 := Aside0.mk (St.box H4.out #[.slice Aq3_0 l0_0.length cq3_0, .slice Aq3_1 l0_1.length cq3_1] 28); clear H4; have z3_0_0 : (w4.alloc (.cells #[.slice Aq3_0 l0_0.length cq3_0, .slice Aq3_1 l0_1.length cq3_1] 28 (0, 0))).cell? ⟨w4.heap.size, 0, none⟩ = some (.slice Aq3_0 l0_0.length cq3_0) := St.cellB HB4.out 0 rfl 0 rfl; have z3_0_1 : (w4.alloc (.cells #[.slice Aq3_0 l0_0.length cq3_0, .slice Aq3_1 l0_1.length cq3_1] 28 (0, 0))).cell? ⟨w4.heap.size, 1, none⟩ = some (.slice Aq3_1 l0_1.length cq3_1) := St.cellB HB4.out 0 rfl 1 rfl)
  go_wp2_with (go_at_call 22; (with_reducible refine (impl_SlideInto_st _ _ _ HB4.out (HB4.out.readR 1 rfl) (HB4.out.readS 2 rfl) Hi.out).mono ?_); rintro e w5 ⟨v4_0, v4_1, ok4_0, ok4_1, rfl, h_⟩; have H5 := Aside0.mk h_; clear h_ HB4 z3_0_0 z3_0_1; obtain ⟨Aq4_0, cq4_0, rfl, _, _⟩ := H5.out.readL 0 rfl; obtain ⟨Aq4_1, cq4_1, rfl, _, _⟩ := H5.out.readS 1 rfl; have HB5 := Aside0.mk (St.box H5.out #[.slice Aq4_0 qr1.length cq4_0, .slice Aq4_1 qr2.length cq4_1] 28); clear H5; have z4_0_0 : (w5.alloc (.cells #[.slice Aq4_0 qr1.length cq4_0, .slice Aq4_1 qr2.length cq4_1] 28 (0, 0))).cell? ⟨w5.heap.size, 0, none⟩ = some (.slice Aq4_0 qr1.length cq4_0) := St.cellB HB5.out 0 rfl 0 rfl; have z4_0_1 : (w5.alloc (.cells #[.slice Aq4_0 qr1.length cq4_0, .slice Aq4_1 qr2.length cq4_1] 28 (0, 0))).cell? ⟨w5.heap.size, 1, none⟩ = some (.slice Aq4_1 qr2.length cq4_1) := St.cellB HB5.out 0 rfl 1 rfl; have z4_6_0 : (w5.alloc (.cells #[.slice Aq4_0 qr1.length cq4_0, .slice Aq4_1 qr2.length cq4_1] 28 (0, 0))).cell? ⟨w3.heap.size, 0, none⟩ = some (.slice Aq2_0 qr1.length cq2_0) := St.cellB HB5.out 6 rfl 0 rfl; have z4_6_1 : (w5.alloc (.cells #[.slice Aq4_0 qr1.length cq4_0, .slice Aq4_1 qr2.length cq4_1] 28 (0, 0))).cell? ⟨w3.heap.size, 1, none⟩ = some (.slice Aq2_1 qr2.length cq2_1) := St.cellB HB5.out 6 rfl 1 rfl)
  go_wp2_with (go_at_call 14; (with_reducible refine (eqTableau_st_same HB5.out (HB5.out.readL 1 rfl) (HB5.out.readS 2 rfl) (HB5.out.readR 7 rfl) (HB5.out.readS 8 rfl) (by have f_ := F.out; omega) (by have f_ := F.out; omega) (fun r h_ => by have f_ := F.out; have := bulk_mem h_; omega)).mono ?_); rintro e w6 ⟨rfl, h_⟩; have H6 := Aside0.mk h_; clear h_ HB5 z4_0_0 z4_0_1 z4_6_0 z4_6_1)
  have HD6 := Aside0.mk (H6.out.quiet (below_drew (Below.refl _ _)))
  clear H6
  go_region_held3 (fun W => W.cell? ⟨w4.heap.size, 0, none⟩ = some (.slice Aq3_0 l0_0.length cq3_0) ∧ W.cell? ⟨w4.heap.size, 1, none⟩ = some (.slice Aq3_1 l0_1.length cq3_1) ∧ W.cell? ⟨w.heap.size, 0, none⟩ = some (.slice A0_0 l0_0.length c0_0) ∧ W.cell? ⟨w.heap.size, 1, none⟩ = some (.slice A0_1 l0_1.length c0_1)) (first | exact ⟨St.cellB HD6.out 3 rfl 0 rfl, St.cellB HD6.out 3 rfl 1 rfl, St.cellB HD6.out 11 rfl 0 rfl, St.cellB HD6.out 11 rfl 1 rfl⟩ | exact ⟨St.cellB H7.out 5 rfl 0 rfl, St.cellB H7.out 5 rfl 1 rfl, St.cellB H7.out 13 rfl 0 rfl, St.cellB H7.out 13 rfl 1 rfl⟩ | exact ⟨St.cellB H8.out 5 rfl 0 rfl, St.cellB H8.out 5 rfl 1 rfl, St.cellB H8.out 13 rfl 0 rfl, St.cellB H8.out 13 rfl 1 rfl⟩)
  (first | (go_at_call 12; (with_reducible refine (toTableau_st HD6.out (HD6.out.came C0_0.out hc0_0) (HD6.out.came C0_1.out hc0_1) (by have f_ := F.out; omega) (by have f_ := F.out; omega) (fun r h_ => by have f_ := F.out; have := bulk_mem h_; omega)).mono ?_); rintro e w7 ⟨v6_0, v6_1, ok6_0, ok6_1, rfl, h_⟩; have H7 := Aside0.mk h_; clear h_ HD6; obtain ⟨Aq6_0, cq6_0, rfl, _, _⟩ := H7.out.readR 0 rfl; obtain ⟨Aq6_1, cq6_1, rfl, _, _⟩ := H7.out.readS 1 rfl) | (go_at_call 14; (with_reducible refine (eqTableau_st_same H7.out (H7.out.readR 6 rfl) (H7.out.readS 7 rfl) (H7.out.readR 0 rfl) (H7.out.readS 1 rfl) (by have f_ := F.out; omega) (by have f_ := F.out; omega) (fun r h_ => by have f_ := F.out; have := bulk_mem h_; omega)).mono ?_); rintro e w8 ⟨rfl, h_⟩; have H8 := Aside0.mk h_; clear h_ H7; have z7_5_0 : w8.cell? ⟨w4.heap.size, 0, none⟩ = some (.slice Aq3_0 l0_0.length cq3_0) := St.cellB H8.out 5 rfl 0 rfl; have z7_5_1 : w8.cell? ⟨w4.heap.size, 1, none⟩ = some (.slice Aq3_1 l0_1.length cq3_1) := St.cellB H8.out 5 rfl 1 rfl))
  go_wp2_with (go_at_call 18; (refine (markTableau_st (L' := [obR (Kd.int .i64) 3 w ok6_0 (.slice Aq6_0 l0_0.length cq6_0) l0_0, obS (Kd.slice 3 (Kd.int .i64)) 22 w ok6_1 (.slice Aq6_1 l0_1.length cq6_1) l0_1, obB w5.heap.size #[.slice Aq4_0 qr1.length cq4_0, .slice Aq4_1 qr2.length cq4_1] 28, obL 3 w ok4_0 (.slice Aq4_0 qr1.length cq4_0) qr1, obS (Kd.slice 3 (Kd.int .i64)) 22 w ok4_1 (.slice Aq4_1 qr2.length cq4_1) qr2, obB w4.heap.size #[.slice Aq3_0 l0_0.length cq3_0, .slice Aq3_1 l0_1.length cq3_1] 28, obR (Kd.int .i64) 3 w ok3_0 (.slice Aq3_0 l0_0.length cq3_0) (marks 1 l0_0.length), obS (Kd.slice 3 (Kd.int .i64)) 22 w ok3_1 (.slice Aq3_1 l0_1.length cq3_1) (rowMarks (1 + l0_0.length) l0_1), obB w3.heap.size #[.slice Aq2_0 qr1.length cq2_0, .slice Aq2_1 qr2.length cq2_1] 28, obR (Kd.int .i64) 3 w ok2_0 (.slice Aq2_0 qr1.length cq2_0) qr1, obS (Kd.slice 3 (Kd.int .i64)) 22 w ok2_1 (.slice Aq2_1 qr2.length cq2_1) qr2, obR (Kd.int .i64) 3 w ok1_0 (.slice Aq1_0 l0_0.length cq1_0) l0_0, obS (Kd.slice 3 (Kd.int .i64)) 22 w ok1_1 (.slice Aq1_1 l0_1.length cq1_1) l0_1, obB w.heap.size #[.slice A0_0 l0_0.length c0_0, .slice A0_1 l0_1.length c0_1] 25]) H8.out 6 7 rfl (by decide) rfl 1 (by have f_ := F.out; omega) (by have f_ := F.out; omega) (by have f_ := F.out; omega) (by have f_ := F.out; omega) rfl).mono ?_); rintro e w9 ⟨rfl, h_⟩; have H9 := Aside0.mk h_; clear h_ H8 z7_5_0 z7_5_1; have z8_2_0 : w9.cell? ⟨w5.heap.size, 0, none⟩ = some (.slice Aq4_0 qr1.length cq4_0) := St.cellB H9.out 2 rfl 0 rfl; have z8_2_1 : w9.cell? ⟨w5.heap.size, 1, none⟩ = some (.slice Aq4_1 qr2.length cq4_1) := St.cellB H9.out 2 rfl 1 rfl; have z8_8_0 : w9.cell? ⟨w3.heap.size, 0, none⟩ = some (.slice Aq2_0 qr1.length cq2_0) := St.cellB H9.out 8 rfl 0 rfl; have z8_8_1 : w9.cell? ⟨w3.heap.size, 1, none⟩ = some (.slice Aq2_1 qr2.length cq2_1) := St.cellB H9.out 8 rfl 1 rfl)
  go_wp2_with (go_at_call 14; (with_reducible refine (eqTableau_st_same H9.out (H9.out.readL 3 rfl) (H9.out.readS 4 rfl) (H9.out.readR 9 rfl) (H9.out.readS 10 rfl) (by have f_ := F.out; omega) (by have f_ := F.out; omega) (fun r h_ => by have f_ := F.out; have := bulk_mem h_; omega)).mono ?_); rintro e w10 ⟨rfl, h_⟩; have H10 := Aside0.mk h_; clear h_ H9 z8_2_0 z8_2_1 z8_8_0 z8_8_1; have z9_2_0 : w10.cell? ⟨w5.heap.size, 0, none⟩ = some (.slice Aq4_0 qr1.length cq4_0) := St.cellB H10.out 2 rfl 0 rfl; have z9_2_1 : w10.cell? ⟨w5.heap.size, 1, none⟩ = some (.slice Aq4_1 qr2.length cq4_1) := St.cellB H10.out 2 rfl 1 rfl)
  go_wp2_with (go_at_call 18; (refine (markTabLoose_st (L' := [obR (Kd.int .i64) 3 w ok6_0 (.slice Aq6_0 l0_0.length cq6_0) l0_0, obS (Kd.slice 3 (Kd.int .i64)) 22 w ok6_1 (.slice Aq6_1 l0_1.length cq6_1) l0_1, obB w5.heap.size #[.slice Aq4_0 qr1.length cq4_0, .slice Aq4_1 qr2.length cq4_1] 28, obL 3 w ok4_0 (.slice Aq4_0 qr1.length cq4_0) (marks 1 qr1.length), obS (Kd.slice 3 (Kd.int .i64)) 22 w ok4_1 (.slice Aq4_1 qr2.length cq4_1) (rowMarks (1 + qr1.length) qr2), obB w4.heap.size #[.slice Aq3_0 l0_0.length cq3_0, .slice Aq3_1 l0_1.length cq3_1] 28, obR (Kd.int .i64) 3 w ok3_0 (.slice Aq3_0 l0_0.length cq3_0) (marks 1 l0_0.length), obS (Kd.slice 3 (Kd.int .i64)) 22 w ok3_1 (.slice Aq3_1 l0_1.length cq3_1) (rowMarks (1 + l0_0.length) l0_1), obB w3.heap.size #[.slice Aq2_0 qr1.length cq2_0, .slice Aq2_1 qr2.length cq2_1] 28, obR (Kd.int .i64) 3 w ok2_0 (.slice Aq2_0 qr1.length cq2_0) qr1, obS (Kd.slice 3 (Kd.int .i64)) 22 w ok2_1 (.slice Aq2_1 qr2.length cq2_1) qr2, obR (Kd.int .i64) 3 w ok1_0 (.slice Aq1_0 l0_0.length cq1_0) l0_0, obS (Kd.slice 3 (Kd.int .i64)) 22 w ok1_1 (.slice Aq1_1 l0_1.length cq1_1) l0_1, obB w.heap.size #[.slice A0_0 l0_0.length c0_0, .slice A0_1 l0_1.length c0_1] 25]) H10.out 3 4 rfl (by decide) rfl 1 (by have f_ := F.out; omega) (by have f_ := F.out; omega) (by have f_ := F.out; omega) (by have f_ := F.out; omega) rfl).mono ?_); rintro e w11 ⟨rfl, h_⟩; have H11 := Aside0.mk h_; clear h_ H10 z9_2_0 z9_2_1; have z10_2_0 : w11.cell? ⟨w5.heap.size, 0, none⟩ = some (.slice Aq4_0 qr1.length cq4_0) := St.cellB H11.out 2 rfl 0 rfl; have z10_2_1 : w11.cell? ⟨w5.heap.size, 1, none⟩ = some (.slice Aq4_1 qr2.length cq4_1) := St.cellB H11.out 2 rfl 1 rfl)
  go_wp2_with (go_at_call 23; (refine (heldTableau_st H11.out qr1.length qr2 1 (H11.out.readL 3 rfl) (H11.out.readS 4 rfl) (by have f_ := F.out; omega) (by have f_ := F.out; omega) (by have f_ := F.out; omega) (by have f_ := F.out; omega)).mono ?_); rintro e w12 ⟨rfl, h_⟩; have H12 := Aside0.mk h_; clear h_ H11 z10_2_0 z10_2_1; have z11_13_0 : w12.cell? ⟨w.heap.size, 0, none⟩ = some (.slice A0_0 l0_0.length c0_0) := St.cellB H12.out 13 rfl 0 rfl; have z11_13_1 : w12.cell? ⟨w.heap.size, 1, none⟩ = some (.slice A0_1 l0_1.length c0_1) := St.cellB H12.out 13 rfl 1 rfl)
  go_wp2_with (go_at_call 12; (with_reducible refine (toTableau_st H12.out (H12.out.came C0_0.out hc0_0) (H12.out.came C0_1.out hc0_1) (by have f_ := F.out; omega) (by have f_ := F.out; omega) (fun r h_ => by have f_ := F.out; have := bulk_mem h_; omega)).mono ?_); rintro e w13 ⟨v12_0, v12_1, ok12_0, ok12_1, rfl, h_⟩; have H13 := Aside0.mk h_; clear h_ H12 z11_13_0 z11_13_1; obtain ⟨Aq12_0, cq12_0, rfl, _, _⟩ := H13.out.readR 0 rfl; obtain ⟨Aq12_1, cq12_1, rfl, _, _⟩ := H13.out.readS 1 rfl)
  go_wp2_with (go_at_call 22; (with_reducible refine (impl_SlideInto_st _ _ _ H13.out (H13.out.readR 0 rfl) (H13.out.readS 1 rfl) Hi.out).mono ?_); rintro e w14 ⟨v13_0, v13_1, ok13_0, ok13_1, rfl, h_⟩; have H14 := Aside0.mk h_; clear h_ H13; obtain ⟨Aq13_0, cq13_0, rfl, _, _⟩ := H14.out.readL 0 rfl; obtain ⟨Aq13_1, cq13_1, rfl, _, _⟩ := H14.out.readS 1 rfl; have HB14 := Aside0.mk (St.box H14.out #[.slice Aq13_0 qr1.length cq13_0, .slice Aq13_1 qr2.length cq13_1] 28); clear H14; have z13_0_0 : (w14.alloc (.cells #[.slice Aq13_0 qr1.length cq13_0, .slice Aq13_1 qr2.length cq13_1] 28 (0, 0))).cell? ⟨w14.heap.size, 0, none⟩ = some (.slice Aq13_0 qr1.length cq13_0) := St.cellB HB14.out 0 rfl 0 rfl; have z13_0_1 : (w14.alloc (.cells #[.slice Aq13_0 qr1.length cq13_0, .slice Aq13_1 qr2.length cq13_1] 28 (0, 0))).cell? ⟨w14.heap.size, 1, none⟩ = some (.slice Aq13_1 qr2.length cq13_1) := St.cellB HB14.out 0 rfl 1 rfl; have z13_13_0 : (w14.alloc (.cells #[.slice Aq13_0 qr1.length cq13_0, .slice Aq13_1 qr2.length cq13_1] 28 (0, 0))).cell? ⟨w3.heap.size, 0, none⟩ = some (.slice Aq2_0 qr1.length cq2_0) := St.cellB HB14.out 13 rfl 0 rfl; have z13_13_1 : (w14.alloc (.cells #[.slice Aq13_0 qr1.length cq13_0, .slice Aq13_1 qr2.length cq13_1] 28 (0, 0))).cell? ⟨w3.heap.size, 1, none⟩ = some (.slice Aq2_1 qr2.length cq2_1) := St.cellB HB14.out 13 rfl 1 rfl)
  go_wp2_with (go_at_call 14; (with_reducible refine (eqTableau_st_same HB14.out (HB14.out.readL 1 rfl) (HB14.out.readS 2 rfl) (HB14.out.readR 14 rfl) (HB14.out.readS 15 rfl) (by have f_ := F.out; omega) (by have f_ := F.out; omega) (fun r h_ => by have f_ := F.out; have := bulk_mem h_; omega)).mono ?_); rintro e w15 ⟨rfl, h_⟩; have H15 := Aside0.mk h_; clear h_ HB14 z13_0_0 z13_0_1 z13_13_0 z13_13_1; have z14_7_0 : w15.cell? ⟨w5.heap.size, 0, none⟩ = some (.slice Aq4_0 qr1.length cq4_0) := St.cellB H15.out 7 rfl 0 rfl; have z14_7_1 : w15.cell? ⟨w5.heap.size, 1, none⟩ = some (.slice Aq4_1 qr2.length cq4_1) := St.cellB H15.out 7 rfl 1 rfl)
  go_wp2_with (go_at_call 23; (refine (heldTableau_st H15.out qr1.length qr2 1 (H15.out.readL 8 rfl) (H15.out.readS 9 rfl) (by have f_ := F.out; omega) (by have f_ := F.out; omega) (by have f_ := F.out; omega) (by have f_ := F.out; omega)).mono ?_); rintro e w16 ⟨rfl, h_⟩; have H16 := Aside0.mk h_; clear h_ H15 z14_7_0 z14_7_1)
  go_ret
  exact ⟨by simp, H16.out.below⟩
end Go.Proofs.Ytljjjdgnpnnmoaa.Walk
