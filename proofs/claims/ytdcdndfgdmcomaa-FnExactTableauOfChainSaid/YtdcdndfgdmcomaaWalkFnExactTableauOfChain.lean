/- The walk of the law on TableauOfChain, over what the law holds; condition: the law's pure statement, told below. -/
import Derived.Test.YtdcdndfgdmcomaaF2
import Derived.Test.YtdcdndfgdmcomaaQAll
import Derived.IntWalk
set_option linter.unusedVariables false
set_option linter.unusedSimpArgs false
namespace Go.Proofs.Ytdcdndfgdmcomaa.Walk
open Go.RowKit Go.Proofs.Ytdcdndfgdmcomaa.F Go.Proofs.YtdcdndfgdmcomaaW.PrintWords Go.Proofs.YtdcdndfgdmcomaaW.PrintLast Go.Proofs.YtdcdndfgdmcomaaW.PrintMore Go.Proofs.Ytdcdndfgdmcomaa.Q
def impl_TableauOfChain.f (l0 : List (List Int)) : Option (List Int × List (List Int) × Bool) := if l0.length ≤ 1048576 ∧ bulk l0 ≤ 1048576 then some (tabChain l0) else none
theorem impl_TableauOfChain.calls (A0 : Option Addr) (c0 : Nat) (l0 : List (List Int)) (r1 : List Int) (r2 : List (List Int)) (r3 : Bool) (w : World) (hr0 : Kd.C (Kd.slice 3 (Kd.int .i64)) w A0 l0.length l0) (hc0 : l0.length ≤ c0) (h : impl_TableauOfChain.f l0 = some (r1, r2, r3)) :
  Calls Try.prog 10 #[.slice A0 l0.length c0] w fun e w' => ∃ v0_ v1_ : Value, e = .returned (.tuple #[.agg #[v0_, v1_], .bool r3]) ∧ Kd.R (Kd.int .i64) 3 w' w.heap.size (fun _ => True) v0_ r1 ∧ Kd.S (Kd.slice 3 (Kd.int .i64)) 24 w' w.heap.size (fun k_ => some k_ ≠ (v0_ : Value).ownBlock) v1_ r2 ∧ Below w.heap.size w w' := by
  unfold impl_TableauOfChain.f at h
  by_cases hb : l0.length ≤ 1048576 ∧ bulk l0 ≤ 1048576
  case neg => rw [if_neg hb] at h; cases h
  rw [if_pos hb] at h
  have e := Option.some.inj h
  have hc := tabChain_calls A0 c0 l0 w hr0 hc0 hb.1 (fun r hr => by have := bulk_mem hr; omega)
  rw [e] at hc
  exact hc

theorem spec_TableauOfChain_st {w W : World} {L : List Ob} {v0 : Value} (l0 : List (List Int)) {r1 : List Int} {r2 : List (List Int)} {r3 : Bool} (h : St w W L) (hr0 : Reads (Kd.slice 3 (Kd.int .i64)) W v0 l0) (hE : Ev (fun k => spec_TableauOfChain.f k l0) (r1, r2, r3)) :
    Calls Try.prog 8 #[v0] W fun e W' => ∃ v0_ v1_ : Value, ∃ ok0 ok1, e = .returned (.tuple #[.agg #[v0_, v1_], .bool r3]) ∧ St w W' (obR (Kd.int .i64) 3 w ok0 v0_ r1 :: obS (Kd.slice 3 (Kd.int .i64)) 24 w ok1 v1_ r2 :: L) := by
  obtain ⟨A0, c0, rfl, hc0, hC0⟩ := hr0
  obtain ⟨K, hK⟩ := hE
  refine (spec_TableauOfChain.calls K A0 c0 l0 r1 r2 r3 W hC0 hc0 (hK K (Nat.le_refl _))).mono ?_
  rintro e W' ⟨v0_, v1_, rfl, o0, o1, hb⟩
  obtain ⟨ok0, ok1, h1⟩ := St.addRS rfl h hb o0 o1
  exact ⟨v0_, v1_, ok0, ok1, rfl, h1⟩
theorem impl_TableauOfChain_st {w W : World} {L : List Ob} {v0 : Value} (l0 : List (List Int)) {r1 : List Int} {r2 : List (List Int)} {r3 : Bool} (h : St w W L) (hr0 : Reads (Kd.slice 3 (Kd.int .i64)) W v0 l0) (hE : impl_TableauOfChain.f l0 = some (r1, r2, r3)) :
    Calls Try.prog 10 #[v0] W fun e W' => ∃ v0_ v1_ : Value, ∃ ok0 ok1, e = .returned (.tuple #[.agg #[v0_, v1_], .bool r3]) ∧ St w W' (obR (Kd.int .i64) 3 w ok0 v0_ r1 :: obS (Kd.slice 3 (Kd.int .i64)) 24 w ok1 v1_ r2 :: L) := by
  obtain ⟨A0, c0, rfl, hc0, hC0⟩ := hr0
  refine (impl_TableauOfChain.calls A0 c0 l0 r1 r2 r3 W hC0 hc0 hE).mono ?_
  rintro e W' ⟨v0_, v1_, rfl, o0, o1, hb⟩
  obtain ⟨ok0, ok1, h1⟩ := St.addRS rfl h hb o0 o1
  exact ⟨v0_, v1_, ok0, ok1, rfl, h1⟩
/-- What the law comes to: both sides compute one value. -/
def FnExactTableauOfChain.Pure : Prop := ∀ (l0 : List (List Int)), (l0.length ≤ maxLen) → (∀ r ∈ l0, r.length ≤ maxLen) → (∀ r ∈ l0, ∀ n ∈ r, (Lit.int .i64 n).wf = true) → (l0.length ≤ 1048576 ∧ bulk l0 ≤ 1048576) → ∃ (qr1 : List Int) (qr2 : List (List Int)) (qr3 : Bool), Ev (fun k => spec_TableauOfChain.f k l0) (qr1, qr2, qr3) ∧ impl_TableauOfChain.f l0 = some (qr1, qr2, qr3) ∧ qr1.length ≤ 576460752303423488 ∧ qr2.length ≤ 576460752303423488 ∧ bulk qr2 ≤ 576460752303423488
set_option maxHeartbeats 8000000 in
set_option maxRecDepth 100000 in
theorem FnExactTableauOfChain.walk (P : FnExactTableauOfChain.Pure) (A0 : Option Addr) (c0 : Nat) (l0 : List (List Int)) (w : World) (hr0 : Kd.C (Kd.slice 3 (Kd.int .i64)) w A0 l0.length l0) (hc0 : l0.length ≤ c0) (m0 : l0.length ≤ maxLen) (n0 : ∀ r ∈ l0, r.length ≤ maxLen) (y0 : ∀ r ∈ l0, ∀ n ∈ r, (Lit.int .i64 n).wf = true) :
    Calls Try.prog 3 #[.slice A0 l0.length c0] w fun e w' => e = .returned (.bool true) ∧ Below w.heap.size w w' := by
  have H0 := Aside0.mk (St.start w)
  have C0 := Aside0.mk hr0
  obtain ⟨z0, hz0, hp0⟩ := szIntSS_ev l0 1048576 (by omega) (by omega) m0 n0
  have Z0 := Aside0.mk hz0
  clear hz0
  by_cases s0 : z0 < 0
  case pos =>
    have b0 : decide (z0 < 0) = true := decide_eq_true s0
    clear s0 hp0 hr0
    go_enter Try.func3, Try.ntmps3
    go_wp2_with (go_at_call 7; (with_reducible refine (szIntSS_st H0.out (H0.out.came C0.out hc0) Z0.out).mono ?_); rintro e w1 ⟨rfl, h_⟩; have H1 := Aside0.mk h_; clear h_ H0)
    go_wp2
    go_ret
    exact ⟨by simp, H1.out.below⟩
  have b0 : decide (z0 < 0) = false := decide_eq_false s0
  obtain ⟨qr1, qr2, qr3, hs, hi, e0, e1⟩ := P l0 m0 n0 y0 ⟨by omega, by omega⟩
  have F := Aside0.mk (And.intro (⟨by omega, by omega⟩ : l0.length ≤ 1048576 ∧ bulk l0 ≤ 1048576) (And.intro e0 (e1)))
  have Hs := Aside0.mk hs
  have Hi := Aside0.mk hi
  clear hs hi e0 e1 hr0 m0 n0 y0
  clear P s0 hp0
  go_enter Try.func3, Try.ntmps3
  go_wp2_with (go_at_call 7; (with_reducible refine (szIntSS_st H0.out (H0.out.came C0.out hc0) Z0.out).mono ?_); rintro e w1 ⟨rfl, h_⟩; have H1 := Aside0.mk h_; clear h_ H0)
  go_wp2_with (go_at_call 9; (with_reducible refine (toIntSS_st H1.out (H1.out.came C0.out hc0) (by have f_ := F.out; omega) (fun r h_ => by have f_ := F.out; have := bulk_mem h_; omega)).mono ?_); rintro e w2 ⟨v1, ok1, rfl, h_⟩; have H2 := Aside0.mk h_; clear h_ H1)
  go_wp2_with (go_at_call 8; (with_reducible refine (spec_TableauOfChain_st _ H2.out (H2.out.readS 0 rfl) Hs.out).mono ?_); rintro e w3 ⟨v2_0, v2_1, ok2_0, ok2_1, rfl, h_⟩; have H3 := Aside0.mk h_; clear h_ H2; obtain ⟨Aq2_0, cq2_0, rfl, _, _⟩ := H3.out.readR 0 rfl; obtain ⟨Aq2_1, cq2_1, rfl, _, _⟩ := H3.out.readS 1 rfl; have HB3 := Aside0.mk (St.box H3.out #[.slice Aq2_0 qr1.length cq2_0, .slice Aq2_1 qr2.length cq2_1] 26); clear H3)
  go_wp2_with (go_at_call 9; (with_reducible refine (toIntSS_st HB3.out (HB3.out.came C0.out hc0) (by have f_ := F.out; omega) (fun r h_ => by have f_ := F.out; have := bulk_mem h_; omega)).mono ?_); rintro e w4 ⟨v3, ok3, rfl, h_⟩; have H4 := Aside0.mk h_; clear h_ HB3)
  go_wp2_with (go_at_call 10; (with_reducible refine (impl_TableauOfChain_st _ H4.out (H4.out.readS 0 rfl) Hi.out).mono ?_); rintro e w5 ⟨v4_0, v4_1, ok4_0, ok4_1, rfl, h_⟩; have H5 := Aside0.mk h_; clear h_ H4; obtain ⟨Aq4_0, cq4_0, rfl, _, _⟩ := H5.out.readR 0 rfl; obtain ⟨Aq4_1, cq4_1, rfl, _, _⟩ := H5.out.readS 1 rfl; have HB5 := Aside0.mk (St.box H5.out #[.slice Aq4_0 qr1.length cq4_0, .slice Aq4_1 qr2.length cq4_1] 26); clear H5; have z4_0_0 : (w5.alloc (.cells #[.slice Aq4_0 qr1.length cq4_0, .slice Aq4_1 qr2.length cq4_1] 26 (0, 0))).cell? ⟨w5.heap.size, 0, none⟩ = some (.slice Aq4_0 qr1.length cq4_0) := St.cellB HB5.out 0 rfl 0 rfl; have z4_0_1 : (w5.alloc (.cells #[.slice Aq4_0 qr1.length cq4_0, .slice Aq4_1 qr2.length cq4_1] 26 (0, 0))).cell? ⟨w5.heap.size, 1, none⟩ = some (.slice Aq4_1 qr2.length cq4_1) := St.cellB HB5.out 0 rfl 1 rfl; have z4_4_0 : (w5.alloc (.cells #[.slice Aq4_0 qr1.length cq4_0, .slice Aq4_1 qr2.length cq4_1] 26 (0, 0))).cell? ⟨w3.heap.size, 0, none⟩ = some (.slice Aq2_0 qr1.length cq2_0) := St.cellB HB5.out 4 rfl 0 rfl; have z4_4_1 : (w5.alloc (.cells #[.slice Aq4_0 qr1.length cq4_0, .slice Aq4_1 qr2.length cq4_1] 26 (0, 0))).cell? ⟨w3.heap.size, 1, none⟩ = some (.slice Aq2_1 qr2.length cq2_1) := St.cellB HB5.out 4 rfl 1 rfl)
  go_wp2_with (go_at_call 11; (with_reducible refine (eqTableau_st_same HB5.out (HB5.out.readR 1 rfl) (HB5.out.readS 2 rfl) (HB5.out.readR 5 rfl) (HB5.out.readS 6 rfl) (by have f_ := F.out; omega) (by have f_ := F.out; omega) (fun r h_ => by have f_ := F.out; have := bulk_mem h_; omega)).mono ?_); rintro e w6 ⟨rfl, h_⟩; have H6 := Aside0.mk h_; clear h_ HB5 z4_0_0 z4_0_1 z4_4_0 z4_4_1)
  go_wp2_with (go_at_call 9; (with_reducible refine (toIntSS_st H6.out (H6.out.came C0.out hc0) (by have f_ := F.out; omega) (fun r h_ => by have f_ := F.out; have := bulk_mem h_; omega)).mono ?_); rintro e w7 ⟨v6, ok6, rfl, h_⟩; have H7 := Aside0.mk h_; clear h_ H6)
  go_wp2_with (go_at_call 12; (with_reducible refine (eqIntSS_st_same H7.out (H7.out.readS 4 rfl) (H7.out.readS 0 rfl) (by have f_ := F.out; omega) (fun r h_ => by have f_ := F.out; have := bulk_mem h_; omega)).mono ?_); rintro e w8 ⟨rfl, h_⟩; have H8 := Aside0.mk h_; clear h_ H7)
  go_wp2_with (go_at_call 13; (refine (markIntSS_st (L' := [obS (Kd.slice 3 (Kd.int .i64)) 24 w ok6 v6 l0, obB w5.heap.size #[.slice Aq4_0 qr1.length cq4_0, .slice Aq4_1 qr2.length cq4_1] 26, obR (Kd.int .i64) 3 w ok4_0 (.slice Aq4_0 qr1.length cq4_0) qr1, obS (Kd.slice 3 (Kd.int .i64)) 24 w ok4_1 (.slice Aq4_1 qr2.length cq4_1) qr2, obS (Kd.slice 3 (Kd.int .i64)) 24 w ok3 v3 (rowMarks 1 l0), obB w3.heap.size #[.slice Aq2_0 qr1.length cq2_0, .slice Aq2_1 qr2.length cq2_1] 26, obR (Kd.int .i64) 3 w ok2_0 (.slice Aq2_0 qr1.length cq2_0) qr1, obS (Kd.slice 3 (Kd.int .i64)) 24 w ok2_1 (.slice Aq2_1 qr2.length cq2_1) qr2, obS (Kd.slice 3 (Kd.int .i64)) 24 w ok1 v1 l0]) H8.out 4 rfl 1 (by have f_ := F.out; omega) (by have f_ := F.out; omega) (by have f_ := F.out; omega) rfl).mono ?_); rintro e w9 ⟨rfl, h_⟩; have H9 := Aside0.mk h_; clear h_ H8; have z8_1_0 : w9.cell? ⟨w5.heap.size, 0, none⟩ = some (.slice Aq4_0 qr1.length cq4_0) := St.cellB H9.out 1 rfl 0 rfl; have z8_1_1 : w9.cell? ⟨w5.heap.size, 1, none⟩ = some (.slice Aq4_1 qr2.length cq4_1) := St.cellB H9.out 1 rfl 1 rfl; have z8_5_0 : w9.cell? ⟨w3.heap.size, 0, none⟩ = some (.slice Aq2_0 qr1.length cq2_0) := St.cellB H9.out 5 rfl 0 rfl; have z8_5_1 : w9.cell? ⟨w3.heap.size, 1, none⟩ = some (.slice Aq2_1 qr2.length cq2_1) := St.cellB H9.out 5 rfl 1 rfl)
  go_wp2_with (go_at_call 11; (with_reducible refine (eqTableau_st_same H9.out (H9.out.readR 2 rfl) (H9.out.readS 3 rfl) (H9.out.readR 6 rfl) (H9.out.readS 7 rfl) (by have f_ := F.out; omega) (by have f_ := F.out; omega) (fun r h_ => by have f_ := F.out; have := bulk_mem h_; omega)).mono ?_); rintro e w10 ⟨rfl, h_⟩; have H10 := Aside0.mk h_; clear h_ H9 z8_1_0 z8_1_1 z8_5_0 z8_5_1; have z9_1_0 : w10.cell? ⟨w5.heap.size, 0, none⟩ = some (.slice Aq4_0 qr1.length cq4_0) := St.cellB H10.out 1 rfl 0 rfl; have z9_1_1 : w10.cell? ⟨w5.heap.size, 1, none⟩ = some (.slice Aq4_1 qr2.length cq4_1) := St.cellB H10.out 1 rfl 1 rfl)
  go_wp2_with (go_at_call 14; (refine (markTableau_st (L' := [obS (Kd.slice 3 (Kd.int .i64)) 24 w ok6 v6 l0, obB w5.heap.size #[.slice Aq4_0 qr1.length cq4_0, .slice Aq4_1 qr2.length cq4_1] 26, obR (Kd.int .i64) 3 w ok4_0 (.slice Aq4_0 qr1.length cq4_0) (marks 1 qr1.length), obS (Kd.slice 3 (Kd.int .i64)) 24 w ok4_1 (.slice Aq4_1 qr2.length cq4_1) (rowMarks (1 + qr1.length) qr2), obS (Kd.slice 3 (Kd.int .i64)) 24 w ok3 v3 (rowMarks 1 l0), obB w3.heap.size #[.slice Aq2_0 qr1.length cq2_0, .slice Aq2_1 qr2.length cq2_1] 26, obR (Kd.int .i64) 3 w ok2_0 (.slice Aq2_0 qr1.length cq2_0) qr1, obS (Kd.slice 3 (Kd.int .i64)) 24 w ok2_1 (.slice Aq2_1 qr2.length cq2_1) qr2, obS (Kd.slice 3 (Kd.int .i64)) 24 w ok1 v1 l0]) H10.out 2 3 rfl (by decide) rfl 1 (by have f_ := F.out; omega) (by have f_ := F.out; omega) (by have f_ := F.out; omega) (by have f_ := F.out; omega) rfl).mono ?_); rintro e w11 ⟨rfl, h_⟩; have H11 := Aside0.mk h_; clear h_ H10 z9_1_0 z9_1_1; have z10_1_0 : w11.cell? ⟨w5.heap.size, 0, none⟩ = some (.slice Aq4_0 qr1.length cq4_0) := St.cellB H11.out 1 rfl 0 rfl; have z10_1_1 : w11.cell? ⟨w5.heap.size, 1, none⟩ = some (.slice Aq4_1 qr2.length cq4_1) := St.cellB H11.out 1 rfl 1 rfl)
  go_wp2_with (go_at_call 15; (refine (heldTableau_st H11.out qr1.length qr2 1 (H11.out.readR 2 rfl) (H11.out.readS 3 rfl) (by have f_ := F.out; omega) (by have f_ := F.out; omega) (by have f_ := F.out; omega) (by have f_ := F.out; omega)).mono ?_); rintro e w12 ⟨rfl, h_⟩; have H12 := Aside0.mk h_; clear h_ H11 z10_1_0 z10_1_1)
  go_wp2_with (go_at_call 9; (with_reducible refine (toIntSS_st H12.out (H12.out.came C0.out hc0) (by have f_ := F.out; omega) (fun r h_ => by have f_ := F.out; have := bulk_mem h_; omega)).mono ?_); rintro e w13 ⟨v12, ok12, rfl, h_⟩; have H13 := Aside0.mk h_; clear h_ H12)
  go_wp2_with (go_at_call 10; (with_reducible refine (impl_TableauOfChain_st _ H13.out (H13.out.readS 0 rfl) Hi.out).mono ?_); rintro e w14 ⟨v13_0, v13_1, ok13_0, ok13_1, rfl, h_⟩; have H14 := Aside0.mk h_; clear h_ H13; obtain ⟨Aq13_0, cq13_0, rfl, _, _⟩ := H14.out.readR 0 rfl; obtain ⟨Aq13_1, cq13_1, rfl, _, _⟩ := H14.out.readS 1 rfl; have HB14 := Aside0.mk (St.box H14.out #[.slice Aq13_0 qr1.length cq13_0, .slice Aq13_1 qr2.length cq13_1] 26); clear H14; have z13_0_0 : (w14.alloc (.cells #[.slice Aq13_0 qr1.length cq13_0, .slice Aq13_1 qr2.length cq13_1] 26 (0, 0))).cell? ⟨w14.heap.size, 0, none⟩ = some (.slice Aq13_0 qr1.length cq13_0) := St.cellB HB14.out 0 rfl 0 rfl; have z13_0_1 : (w14.alloc (.cells #[.slice Aq13_0 qr1.length cq13_0, .slice Aq13_1 qr2.length cq13_1] 26 (0, 0))).cell? ⟨w14.heap.size, 1, none⟩ = some (.slice Aq13_1 qr2.length cq13_1) := St.cellB HB14.out 0 rfl 1 rfl; have z13_9_0 : (w14.alloc (.cells #[.slice Aq13_0 qr1.length cq13_0, .slice Aq13_1 qr2.length cq13_1] 26 (0, 0))).cell? ⟨w3.heap.size, 0, none⟩ = some (.slice Aq2_0 qr1.length cq2_0) := St.cellB HB14.out 9 rfl 0 rfl; have z13_9_1 : (w14.alloc (.cells #[.slice Aq13_0 qr1.length cq13_0, .slice Aq13_1 qr2.length cq13_1] 26 (0, 0))).cell? ⟨w3.heap.size, 1, none⟩ = some (.slice Aq2_1 qr2.length cq2_1) := St.cellB HB14.out 9 rfl 1 rfl)
  go_wp2_with (go_at_call 11; (with_reducible refine (eqTableau_st_same HB14.out (HB14.out.readR 1 rfl) (HB14.out.readS 2 rfl) (HB14.out.readR 10 rfl) (HB14.out.readS 11 rfl) (by have f_ := F.out; omega) (by have f_ := F.out; omega) (fun r h_ => by have f_ := F.out; have := bulk_mem h_; omega)).mono ?_); rintro e w15 ⟨rfl, h_⟩; have H15 := Aside0.mk h_; clear h_ HB14 z13_0_0 z13_0_1 z13_9_0 z13_9_1; have z14_5_0 : w15.cell? ⟨w5.heap.size, 0, none⟩ = some (.slice Aq4_0 qr1.length cq4_0) := St.cellB H15.out 5 rfl 0 rfl; have z14_5_1 : w15.cell? ⟨w5.heap.size, 1, none⟩ = some (.slice Aq4_1 qr2.length cq4_1) := St.cellB H15.out 5 rfl 1 rfl)
  go_wp2_with (go_at_call 15; (refine (heldTableau_st H15.out qr1.length qr2 1 (H15.out.readR 6 rfl) (H15.out.readS 7 rfl) (by have f_ := F.out; omega) (by have f_ := F.out; omega) (by have f_ := F.out; omega) (by have f_ := F.out; omega)).mono ?_); rintro e w16 ⟨rfl, h_⟩; have H16 := Aside0.mk h_; clear h_ H15 z14_5_0 z14_5_1)
  go_ret
  exact ⟨by simp, H16.out.below⟩
end Go.Proofs.Ytdcdndfgdmcomaa.Walk
