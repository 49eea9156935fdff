/- The walk of the law on ChainOf, over what the law holds; condition: the law's pure statement, told below. -/
import Derived.Test.YtdcdndfgdmcomaaF6
import Derived.Test.YtdcdndfgdmcomaaQAll
import Derived.IntWalk
set_option linter.unusedVariables false
set_option linter.unusedSimpArgs false
namespace Go.Proofs.Ytdcdndfgdmcomaa.Walk
open Go.RowKit Go.Proofs.Ytdcdndfgdmcomaa.F Go.Proofs.YtdcdndfgdmcomaaW.PrintWords Go.Proofs.YtdcdndfgdmcomaaW.PrintLast Go.Proofs.YtdcdndfgdmcomaaW.PrintMore Go.Proofs.Ytdcdndfgdmcomaa.Q
def impl_ChainOf.f (l0_0 : List Int) (l0_1 : List (List Int)) : Option (List (List Int)) := if l0_0.length ≤ 1048576 ∧ l0_1.length ≤ 1048576 ∧ bulk l0_1 ≤ 1048576 then some (chainOf l0_0 l0_1) else none
theorem impl_ChainOf.calls (A0_0 : Option Addr) (c0_0 : Nat) (l0_0 : List Int) (A0_1 : Option Addr) (c0_1 : Nat) (l0_1 : List (List Int)) (r : List (List Int)) (w : World) (hr0_0 : Kd.C (Kd.int .i64) w A0_0 l0_0.length l0_0) (hc0_0 : l0_0.length ≤ c0_0) (hr0_1 : Kd.C (Kd.slice 3 (Kd.int .i64)) w A0_1 l0_1.length l0_1) (hc0_1 : l0_1.length ≤ c0_1) (h : impl_ChainOf.f l0_0 l0_1 = some r) :
  Calls Try.prog 24 #[.agg #[.slice A0_0 l0_0.length c0_0, .slice A0_1 l0_1.length c0_1]] w fun e w' => ∃ v0_ : Value, e = .returned (v0_) ∧ Kd.S (loose 3) 24 w' w.heap.size (fun _ => True) v0_ r ∧ Below w.heap.size w w' := by
  unfold impl_ChainOf.f at h
  by_cases hb : l0_0.length ≤ 1048576 ∧ l0_1.length ≤ 1048576 ∧ bulk l0_1 ≤ 1048576
  case neg => rw [if_neg hb] at h; cases h
  rw [if_pos hb] at h
  obtain rfl := Option.some.inj h
  exact chainOf_calls A0_0 c0_0 l0_0 A0_1 c0_1 l0_1 w hr0_0 hc0_0 hr0_1 hc0_1 hb.1 hb.2.1 hb.2.2

theorem spec_ChainOf_st {w W : World} {L : List Ob} {v0_0 v0_1 : Value} (l0_0 : List Int) (l0_1 : List (List Int)) {r : List (List Int)} (h : St w W L) (hr0_0 : Reads (Kd.int .i64) W v0_0 l0_0) (hr0_1 : Reads (Kd.slice 3 (Kd.int .i64)) W v0_1 l0_1) (hE : Ev (fun k => spec_ChainOf.f k l0_0 l0_1) r) :
    Calls Try.prog 23 #[.agg #[v0_0, v0_1]] W fun e W' => ∃ v0_ : Value, ∃ ok0, e = .returned (v0_) ∧ St w W' (obS (Kd.slice 3 (Kd.int .i64)) 24 w ok0 v0_ r :: L) := by
  obtain ⟨A0_0, c0_0, rfl, hc0_0, hC0_0⟩ := hr0_0
  obtain ⟨A0_1, c0_1, rfl, hc0_1, hC0_1⟩ := hr0_1
  obtain ⟨K, hK⟩ := hE
  refine (spec_ChainOf.calls K A0_0 c0_0 l0_0 A0_1 c0_1 l0_1 r W hC0_0 hc0_0 hC0_1 hc0_1 (hK K (Nat.le_refl _))).mono ?_
  rintro e W' ⟨v0_, rfl, o0, hb⟩
  obtain ⟨ok0, h1⟩ := h.addS hb o0
  exact ⟨v0_, ok0, rfl, h1⟩
theorem impl_ChainOf_st {w W : World} {L : List Ob} {v0_0 v0_1 : Value} (l0_0 : List Int) (l0_1 : List (List Int)) {r : List (List Int)} (h : St w W L) (hr0_0 : Reads (Kd.int .i64) W v0_0 l0_0) (hr0_1 : Reads (Kd.slice 3 (Kd.int .i64)) W v0_1 l0_1) (hE : impl_ChainOf.f l0_0 l0_1 = some r) :
    Calls Try.prog 24 #[.agg #[v0_0, v0_1]] W fun e W' => ∃ v0_ : Value, ∃ ok0, e = .returned (v0_) ∧ St w W' (obS (loose 3) 24 w ok0 v0_ r :: L) := by
  obtain ⟨A0_0, c0_0, rfl, hc0_0, hC0_0⟩ := hr0_0
  obtain ⟨A0_1, c0_1, rfl, hc0_1, hC0_1⟩ := hr0_1
  refine (impl_ChainOf.calls A0_0 c0_0 l0_0 A0_1 c0_1 l0_1 r W hC0_0 hc0_0 hC0_1 hc0_1 hE).mono ?_
  rintro e W' ⟨v0_, rfl, o0, hb⟩
  obtain ⟨ok0, h1⟩ := h.addS hb o0
  exact ⟨v0_, ok0, rfl, h1⟩
def FnExactChainOf.Pure : Prop := ∀ (l0_0 : List Int) (l0_1 : List (List Int)), (l0_0.length ≤ maxLen) → (∀ n ∈ l0_0, (Lit.int .i64 n).wf = true) → (l0_1.length ≤ maxLen) → (∀ r ∈ l0_1, r.length ≤ maxLen) → (∀ r ∈ l0_1, ∀ n ∈ r, (Lit.int .i64 n).wf = true) → (l0_0.length ≤ 1048576) → (l0_1.length ≤ 1048576 ∧ bulk l0_1 ≤ 1048576) → ∃ (qr : List (List Int)), Ev (fun k => spec_ChainOf.f k l0_0 l0_1) qr ∧ impl_ChainOf.f l0_0 l0_1 = some qr ∧ qr.length ≤ 576460752303423488 ∧ bulk qr ≤ 576460752303423488
set_option maxHeartbeats 8000000 in
set_option maxRecDepth 100000 in
theorem FnExactChainOf.walk (P : FnExactChainOf.Pure) (A0_0 : Option Addr) (c0_0 : Nat) (l0_0 : List Int) (A0_1 : Option Addr) (c0_1 : Nat) (l0_1 : List (List Int)) (w : World) (hr0_0 : Kd.C (Kd.int .i64) w A0_0 l0_0.length l0_0) (hc0_0 : l0_0.length ≤ c0_0) (hr0_1 : Kd.C (Kd.slice 3 (Kd.int .i64)) w A0_1 l0_1.length l0_1) (hc0_1 : l0_1.length ≤ c0_1) (m0_0 : l0_0.length ≤ maxLen) (y0_0 : ∀ n ∈ l0_0, (Lit.int .i64 n).wf = true) (m0_1 : l0_1.length ≤ maxLen) (n0_1 : ∀ r ∈ l0_1, r.length ≤ maxLen) (y0_1 : ∀ r ∈ l0_1, ∀ n ∈ r, (Lit.int .i64 n).wf = true) :
    Calls Try.prog 5 #[.agg #[.slice A0_0 l0_0.length c0_0, .slice A0_1 l0_1.length c0_1]] w fun e w' => e = .returned (.bool true) ∧ Below w.heap.size w w' := by
  have H0 := Aside0.mk (St.boxAt (St.start w) #[.slice A0_0 l0_0.length c0_0, .slice A0_1 l0_1.length c0_1] 34 (b := w.heap.size) (by simp only [World.size_alloc]))
  have y0_0_0 : (w.alloc (.cells #[.slice A0_0 l0_0.length c0_0, .slice A0_1 l0_1.length c0_1] 34 (0, 0))).cell? ⟨w.heap.size, 0, none⟩ = some (.slice A0_0 l0_0.length c0_0) := St.cellB H0.out 0 rfl 0 rfl
  have y0_0_1 : (w.alloc (.cells #[.slice A0_0 l0_0.length c0_0, .slice A0_1 l0_1.length c0_1] 34 (0, 0))).cell? ⟨w.heap.size, 1, none⟩ = some (.slice A0_1 l0_1.length c0_1) := St.cellB H0.out 0 rfl 1 rfl
  have C0_0 := Aside0.mk hr0_0
  have C0_1 := Aside0.mk hr0_1
  obtain ⟨z0, hz0, hp0⟩ := szTableau_evb l0_0 l0_1 1048576 (by omega) (by omega) m0_0 m0_1 n0_1
  have Z0 := Aside0.mk hz0
  clear hz0
  by_cases s0 : z0 < 0
  case pos =>
    have b0 : decide (z0 < 0) = true := decide_eq_true s0
    clear s0 hp0 hr0_0 hr0_1
    go_enter Try.func5, Try.ntmps5
    go_wp2_with (go_at_call 16; (with_reducible refine (szTableau_st H0.out (H0.out.came C0_0.out hc0_0) (H0.out.came C0_1.out hc0_1) Z0.out).mono ?_); rintro e w1 ⟨rfl, h_⟩; have H1 := Aside0.mk h_; clear h_ H0 y0_0_0 y0_0_1; have y1_0_0 : w1.cell? ⟨w.heap.size, 0, none⟩ = some (.slice A0_0 l0_0.length c0_0) := St.cellB H1.out 0 rfl 0 rfl; have y1_0_1 : w1.cell? ⟨w.heap.size, 1, none⟩ = some (.slice A0_1 l0_1.length c0_1) := St.cellB H1.out 0 rfl 1 rfl)
    go_wp2
    go_ret
    exact ⟨by simp, H1.out.below⟩
  have b0 : decide (z0 < 0) = false := decide_eq_false s0
  obtain ⟨qr, hs, hi, e0⟩ := P l0_0 l0_1 m0_0 y0_0 m0_1 n0_1 y0_1 (by omega) ⟨by omega, by omega⟩
  have F := Aside0.mk (And.intro (by omega : l0_0.length ≤ 1048576) (And.intro (⟨by omega, by omega⟩ : l0_1.length ≤ 1048576 ∧ bulk l0_1 ≤ 1048576) (e0)))
  have Hs := Aside0.mk hs
  have Hi := Aside0.mk hi
  clear hs hi e0 hr0_0 hr0_1 m0_0 y0_0 m0_1 n0_1 y0_1
  clear P s0 hp0
  go_enter Try.func5, Try.ntmps5
  go_wp2_with (go_at_call 16; (with_reducible refine (szTableau_st H0.out (H0.out.came C0_0.out hc0_0) (H0.out.came C0_1.out hc0_1) Z0.out).mono ?_); rintro e w1 ⟨rfl, h_⟩; have H1 := Aside0.mk h_; clear h_ H0 y0_0_0 y0_0_1; have y1_0_0 : w1.cell? ⟨w.heap.size, 0, none⟩ = some (.slice A0_0 l0_0.length c0_0) := St.cellB H1.out 0 rfl 0 rfl; have y1_0_1 : w1.cell? ⟨w.heap.size, 1, none⟩ = some (.slice A0_1 l0_1.length c0_1) := St.cellB H1.out 0 rfl 1 rfl)
  go_wp2_with (go_at_call 18; (with_reducible refine (toTableau_st H1.out (H1.out.came C0_0.out hc0_0) (H1.out.came C0_1.out hc0_1) (by have f_ := F.out; omega) (by have f_ := F.out; omega) (fun r h_ => by have f_ := F.out; have := bulk_mem h_; omega)).mono ?_); rintro e w2 ⟨v1_0, v1_1, ok1_0, ok1_1, rfl, h_⟩; have H2 := Aside0.mk h_; clear h_ H1 y1_0_0 y1_0_1; obtain ⟨Aq1_0, cq1_0, rfl, _, _⟩ := H2.out.readR 0 rfl; obtain ⟨Aq1_1, cq1_1, rfl, _, _⟩ := H2.out.readS 1 rfl)
  go_wp2_with (go_at_call 23; (with_reducible refine (spec_ChainOf_st _ _ H2.out (H2.out.readR 0 rfl) (H2.out.readS 1 rfl) Hs.out).mono ?_); rintro e w3 ⟨v2, ok2, rfl, h_⟩; have H3 := Aside0.mk h_; clear h_ H2; have z2_3_0 : w3.cell? ⟨w.heap.size, 0, none⟩ = some (.slice A0_0 l0_0.length c0_0) := St.cellB H3.out 3 rfl 0 rfl; have z2_3_1 : w3.cell? ⟨w.heap.size, 1, none⟩ = some (.slice A0_1 l0_1.length c0_1) := St.cellB H3.out 3 rfl 1 rfl)
  go_wp2_with (go_at_call 18; (with_reducible refine (toTableau_st H3.out (H3.out.came C0_0.out hc0_0) (H3.out.came C0_1.out hc0_1) (by have f_ := F.out; omega) (by have f_ := F.out; omega) (fun r h_ => by have f_ := F.out; have := bulk_mem h_; omega)).mono ?_); rintro e w4 ⟨v3_0, v3_1, ok3_0, ok3_1, rfl, h_⟩; have H4 := Aside0.mk h_; clear h_ H3 z2_3_0 z2_3_1; obtain ⟨Aq3_0, cq3_0, rfl, _, _⟩ := H4.out.readR 0 rfl; obtain ⟨Aq3_1, cq3_1, rfl, _, _⟩ := H4.out.readS 1 rfl; have HB4 := Aside0.mk (St.box H4.out #[.slice Aq3_0 l0_0.length cq3_0, .slice Aq3_1 l0_1.length cq3_1] 26); clear H4; have z3_0_0 : (w4.alloc (.cells #[.slice Aq3_0 l0_0.length cq3_0, .slice Aq3_1 l0_1.length cq3_1] 26 (0, 0))).cell? ⟨w4.heap.size, 0, none⟩ = some (.slice Aq3_0 l0_0.length cq3_0) := St.cellB HB4.out 0 rfl 0 rfl; have z3_0_1 : (w4.alloc (.cells #[.slice Aq3_0 l0_0.length cq3_0, .slice Aq3_1 l0_1.length cq3_1] 26 (0, 0))).cell? ⟨w4.heap.size, 1, none⟩ = some (.slice Aq3_1 l0_1.length cq3_1) := St.cellB HB4.out 0 rfl 1 rfl)
  go_wp2_with (go_at_call 24; (with_reducible refine (impl_ChainOf_st _ _ HB4.out (HB4.out.readR 1 rfl) (HB4.out.readS 2 rfl) Hi.out).mono ?_); rintro e w5 ⟨v4, ok4, rfl, h_⟩; have H5 := Aside0.mk h_; clear h_ HB4 z3_0_0 z3_0_1)
  go_wp2_with (go_at_call 12; (with_reducible refine (eqIntSS_st_same H5.out (H5.out.readLS 0 rfl) (H5.out.readS 4 rfl) (by have f_ := F.out; omega) (fun r h_ => by have f_ := F.out; have := bulk_mem h_; omega)).mono ?_); rintro e w6 ⟨rfl, h_⟩; have H6 := Aside0.mk h_; clear h_ H5)
  have HD6 := Aside0.mk (H6.out.quiet (below_drew (Below.refl _ _)))
  clear H6
  go_region_held3 (fun W => W.cell? ⟨w4.heap.size, 0, none⟩ = some (.slice Aq3_0 l0_0.length cq3_0) ∧ W.cell? ⟨w4.heap.size, 1, none⟩ = some (.slice Aq3_1 l0_1.length cq3_1) ∧ W.cell? ⟨w.heap.size, 0, none⟩ = some (.slice A0_0 l0_0.length c0_0) ∧ W.cell? ⟨w.heap.size, 1, none⟩ = some (.slice A0_1 l0_1.length c0_1)) (first | exact ⟨St.cellB HD6.out 1 rfl 0 rfl, St.cellB HD6.out 1 rfl 1 rfl, St.cellB HD6.out 7 rfl 0 rfl, St.cellB HD6.out 7 rfl 1 rfl⟩ | exact ⟨St.cellB H7.out 3 rfl 0 rfl, St.cellB H7.out 3 rfl 1 rfl, St.cellB H7.out 9 rfl 0 rfl, St.cellB H7.out 9 rfl 1 rfl⟩ | exact ⟨St.cellB H8.out 3 rfl 0 rfl, St.cellB H8.out 3 rfl 1 rfl, St.cellB H8.out 9 rfl 0 rfl, St.cellB H8.out 9 rfl 1 rfl⟩)
  (first | (go_at_call 18; (with_reducible refine (toTableau_st HD6.out (HD6.out.came C0_0.out hc0_0) (HD6.out.came C0_1.out hc0_1) (by have f_ := F.out; omega) (by have f_ := F.out; omega) (fun r h_ => by have f_ := F.out; have := bulk_mem h_; omega)).mono ?_); rintro e w7 ⟨v6_0, v6_1, ok6_0, ok6_1, rfl, h_⟩; have H7 := Aside0.mk h_; clear h_ HD6; obtain ⟨Aq6_0, cq6_0, rfl, _, _⟩ := H7.out.readR 0 rfl; obtain ⟨Aq6_1, cq6_1, rfl, _, _⟩ := H7.out.readS 1 rfl) | (go_at_call 11; (with_reducible refine (eqTableau_st_same H7.out (H7.out.readR 4 rfl) (H7.out.readS 5 rfl) (H7.out.readR 0 rfl) (H7.out.readS 1 rfl) (by have f_ := F.out; omega) (by have f_ := F.out; omega) (fun r h_ => by have f_ := F.out; have := bulk_mem h_; omega)).mono ?_); rintro e w8 ⟨rfl, h_⟩; have H8 := Aside0.mk h_; clear h_ H7; have z7_3_0 : w8.cell? ⟨w4.heap.size, 0, none⟩ = some (.slice Aq3_0 l0_0.length cq3_0) := St.cellB H8.out 3 rfl 0 rfl; have z7_3_1 : w8.cell? ⟨w4.heap.size, 1, none⟩ = some (.slice Aq3_1 l0_1.length cq3_1) := St.cellB H8.out 3 rfl 1 rfl))
  go_wp2_with (go_at_call 14; (refine (markTableau_st (L' := [obR (Kd.int .i64) 3 w ok6_0 (.slice Aq6_0 l0_0.length cq6_0) l0_0, obS (Kd.slice 3 (Kd.int .i64)) 24 w ok6_1 (.slice Aq6_1 l0_1.length cq6_1) l0_1, obS (loose 3) 24 w ok4 v4 qr, obB w4.heap.size #[.slice Aq3_0 l0_0.length cq3_0, .slice Aq3_1 l0_1.length cq3_1] 26, obR (Kd.int .i64) 3 w ok3_0 (.slice Aq3_0 l0_0.length cq3_0) (marks 1 l0_0.length), obS (Kd.slice 3 (Kd.int .i64)) 24 w ok3_1 (.slice Aq3_1 l0_1.length cq3_1) (rowMarks (1 + l0_0.length) l0_1), obS (Kd.slice 3 (Kd.int .i64)) 24 w ok2 v2 qr, obR (Kd.int .i64) 3 w ok1_0 (.slice Aq1_0 l0_0.length cq1_0) l0_0, obS (Kd.slice 3 (Kd.int .i64)) 24 w ok1_1 (.slice Aq1_1 l0_1.length cq1_1) l0_1, obB w.heap.size #[.slice A0_0 l0_0.length c0_0, .slice A0_1 l0_1.length c0_1] 34]) H8.out 4 5 rfl (by decide) rfl 1 (by have f_ := F.out; omega) (by have f_ := F.out; omega) (by have f_ := F.out; omega) (by have f_ := F.out; omega) rfl).mono ?_); rintro e w9 ⟨rfl, h_⟩; have H9 := Aside0.mk h_; clear h_ H8 z7_3_0 z7_3_1)
  go_wp2_with (go_at_call 12; (with_reducible refine (eqIntSS_st_same H9.out (H9.out.readLS 2 rfl) (H9.out.readS 6 rfl) (by have f_ := F.out; omega) (fun r h_ => by have f_ := F.out; have := bulk_mem h_; omega)).mono ?_); rintro e w10 ⟨rfl, h_⟩; have H10 := Aside0.mk h_; clear h_ H9)
  go_wp2_with (go_at_call 13; (refine (markLooseRows_st (L' := [obR (Kd.int .i64) 3 w ok6_0 (.slice Aq6_0 l0_0.length cq6_0) l0_0, obS (Kd.slice 3 (Kd.int .i64)) 24 w ok6_1 (.slice Aq6_1 l0_1.length cq6_1) l0_1, obS (loose 3) 24 w ok4 v4 (rowMarks 1 qr), obB w4.heap.size #[.slice Aq3_0 l0_0.length cq3_0, .slice Aq3_1 l0_1.length cq3_1] 26, obR (Kd.int .i64) 3 w ok3_0 (.slice Aq3_0 l0_0.length cq3_0) (marks 1 l0_0.length), obS (Kd.slice 3 (Kd.int .i64)) 24 w ok3_1 (.slice Aq3_1 l0_1.length cq3_1) (rowMarks (1 + l0_0.length) l0_1), obS (Kd.slice 3 (Kd.int .i64)) 24 w ok2 v2 qr, obR (Kd.int .i64) 3 w ok1_0 (.slice Aq1_0 l0_0.length cq1_0) l0_0, obS (Kd.slice 3 (Kd.int .i64)) 24 w ok1_1 (.slice Aq1_1 l0_1.length cq1_1) l0_1, obB w.heap.size #[.slice A0_0 l0_0.length c0_0, .slice A0_1 l0_1.length c0_1] 34]) H10.out 2 rfl 1 (by have f_ := F.out; omega) (by have f_ := F.out; omega) (by have f_ := F.out; omega) rfl).mono ?_); rintro e w11 ⟨rfl, h_⟩; have H11 := Aside0.mk h_; clear h_ H10)
  go_wp2_with (go_at_call 25; (refine (heldIntSS_st H11.out qr 1 (H11.out.readLS 2 rfl) (by have f_ := F.out; omega) (by have f_ := F.out; omega) (by have f_ := F.out; omega)).mono ?_); rintro e w12 ⟨rfl, h_⟩; have H12 := Aside0.mk h_; clear h_ H11; have z11_9_0 : w12.cell? ⟨w.heap.size, 0, none⟩ = some (.slice A0_0 l0_0.length c0_0) := St.cellB H12.out 9 rfl 0 rfl; have z11_9_1 : w12.cell? ⟨w.heap.size, 1, none⟩ = some (.slice A0_1 l0_1.length c0_1) := St.cellB H12.out 9 rfl 1 rfl)
  go_wp2_with (go_at_call 18; (with_reducible refine (toTableau_st H12.out (H12.out.came C0_0.out hc0_0) (H12.out.came C0_1.out hc0_1) (by have f_ := F.out; omega) (by have f_ := F.out; omega) (fun r h_ => by have f_ := F.out; have := bulk_mem h_; omega)).mono ?_); rintro e w13 ⟨v12_0, v12_1, ok12_0, ok12_1, rfl, h_⟩; have H13 := Aside0.mk h_; clear h_ H12 z11_9_0 z11_9_1; obtain ⟨Aq12_0, cq12_0, rfl, _, _⟩ := H13.out.readR 0 rfl; obtain ⟨Aq12_1, cq12_1, rfl, _, _⟩ := H13.out.readS 1 rfl)
  go_wp2_with (go_at_call 24; (with_reducible refine (impl_ChainOf_st _ _ H13.out (H13.out.readR 0 rfl) (H13.out.readS 1 rfl) Hi.out).mono ?_); rintro e w14 ⟨v13, ok13, rfl, h_⟩; have H14 := Aside0.mk h_; clear h_ H13)
  go_wp2_with (go_at_call 12; (with_reducible refine (eqIntSS_st_same H14.out (H14.out.readLS 0 rfl) (H14.out.readS 9 rfl) (by have f_ := F.out; omega) (fun r h_ => by have f_ := F.out; have := bulk_mem h_; omega)).mono ?_); rintro e w15 ⟨rfl, h_⟩; have H15 := Aside0.mk h_; clear h_ H14)
  go_wp2_with (go_at_call 25; (refine (heldIntSS_st H15.out qr 1 (H15.out.readLS 5 rfl) (by have f_ := F.out; omega) (by have f_ := F.out; omega) (by have f_ := F.out; omega)).mono ?_); rintro e w16 ⟨rfl, h_⟩; have H16 := Aside0.mk h_; clear h_ H15)
  go_ret
  exact ⟨by simp, H16.out.below⟩
end Go.Proofs.Ytdcdndfgdmcomaa.Walk
