/- The walk of the law on IsCompatible, over what the law holds; condition: the law's pure statement, told below. -/
import Derived.Test.YtdcdndfgdmcomaaF14
import Derived.Test.YtdcdndfgdmcomaaF8
import Derived.Test.YtdcdndfgdmcomaaQAll
set_option linter.unusedVariables false
set_option linter.unusedSimpArgs false
namespace Go.Proofs.Ytdcdndfgdmcomaa.Walk
open Go.RowKit Go.Proofs.Ytdcdndfgdmcomaa.F Go.Proofs.YtdcdndfgdmcomaaW.PrintWords Go.Proofs.YtdcdndfgdmcomaaW.PrintLast Go.Proofs.YtdcdndfgdmcomaaW.PrintMore Go.Proofs.Ytdcdndfgdmcomaa.Q
theorem spec_IsCompatible_st {w W : World} {L : List Ob} {v0_0 v0_1 v1 : Value} (l0_0 : List Int) (l0_1 : List (List Int)) (l1 : List Int) {r : Bool} (h : St w W L) (hr0_0 : Reads (Kd.int .i64) W v0_0 l0_0) (hr0_1 : Reads (Kd.slice 3 (Kd.int .i64)) W v0_1 l0_1) (hr1 : Reads (Kd.int .i64) W v1 l1) (hE : Ev (fun k => spec_IsCompatible.f k l0_0 l0_1 l1) r) :
    Calls Try.prog 26 #[.agg #[v0_0, v0_1], v1] W fun e W' => e = .returned (.bool r) ∧ St w W' L := by
  obtain ⟨A0_0, c0_0, rfl, hc0_0, hC0_0⟩ := hr0_0
  obtain ⟨A0_1, c0_1, rfl, hc0_1, hC0_1⟩ := hr0_1
  obtain ⟨A1, c1, rfl, hc1, hC1⟩ := hr1
  obtain ⟨K, hK⟩ := hE
  refine (spec_IsCompatible.calls K A0_0 c0_0 l0_0 A0_1 c0_1 l0_1 A1 c1 l1 r W hC0_0 hc0_0 hC0_1 hc0_1 hC1 hc1 (hK K (Nat.le_refl _))).mono ?_
  rintro e W' ⟨rfl, hb⟩
  exact ⟨rfl, h.quiet hb⟩
theorem impl_IsCompatible_st {w W : World} {L : List Ob} {v0_0 v0_1 v1 : Value} (l0_0 : List Int) (l0_1 : List (List Int)) (l1 : List Int) {r : Bool} (h : St w W L) (hr0_0 : Reads (Kd.int .i64) W v0_0 l0_0) (hr0_1 : Reads (Kd.slice 3 (Kd.int .i64)) W v0_1 l0_1) (hr1 : Reads (Kd.int .i64) W v1 l1) (hE : Ev (fun k => impl_IsCompatible.f k l0_0 l0_1 l1) r) :
    Calls Try.prog 28 #[.agg #[v0_0, v0_1], v1] W fun e W' => e = .returned (.bool r) ∧ St w W' L := by
  obtain ⟨A0_0, c0_0, rfl, hc0_0, hC0_0⟩ := hr0_0
  obtain ⟨A0_1, c0_1, rfl, hc0_1, hC0_1⟩ := hr0_1
  obtain ⟨A1, c1, rfl, hc1, hC1⟩ := hr1
  obtain ⟨K, hK⟩ := hE
  refine (impl_IsCompatible.calls K A0_0 c0_0 l0_0 A0_1 c0_1 l0_1 A1 c1 l1 r W hC0_0 hc0_0 hC0_1 hc0_1 hC1 hc1 (hK K (Nat.le_refl _))).mono ?_
  rintro e W' ⟨rfl, hb⟩
  exact ⟨rfl, h.quiet hb⟩
def FnExactIsCompatible.Pure : Prop := ∀ (l0_0 : List Int) (l0_1 : List (List Int)) (l1 : List Int), (l0_0.length ≤ maxLen) → (∀ n ∈ l0_0, (Lit.int .i64 n).wf = true) → (l0_1.length ≤ maxLen) → (∀ r ∈ l0_1, r.length ≤ maxLen) → (∀ r ∈ l0_1, ∀ n ∈ r, (Lit.int .i64 n).wf = true) → (l1.length ≤ maxLen) → (∀ n ∈ l1, (Lit.int .i64 n).wf = true) → (l0_0.length ≤ 1048576) → (l0_1.length ≤ 1048576 ∧ bulk l0_1 ≤ 1048576) → (l1.length ≤ 1048576) → ∃ (qr : Bool), Ev (fun k => spec_IsCompatible.f k l0_0 l0_1 l1) qr ∧ Ev (fun k => impl_IsCompatible.f k l0_0 l0_1 l1) qr
set_option maxHeartbeats 8000000 in
set_option maxRecDepth 100000 in
theorem FnExactIsCompatible.walk (P : FnExactIsCompatible.Pure) (A0_0 : Option Addr) (c0_0 : Nat) (l0_0 : List Int) (A0_1 : Option Addr) (c0_1 : Nat) (l0_1 : List (List Int)) (A1 : Option Addr) (c1 : Nat) (l1 : List Int) (w : World) (hr0_0 : Kd.C (Kd.int .i64) w A0_0 l0_0.length l0_0) (hc0_0 : l0_0.length ≤ c0_0) (hr0_1 : Kd.C (Kd.slice 3 (Kd.int .i64)) w A0_1 l0_1.length l0_1) (hc0_1 : l0_1.length ≤ c0_1) (hr1 : Kd.C (Kd.int .i64) w A1 l1.length l1) (hc1 : l1.length ≤ c1) (m0_0 : l0_0.length ≤ maxLen) (y0_0 : ∀ n ∈ l0_0, (Lit.int .i64 n).wf = true) (m0_1 : l0_1.length ≤ maxLen) (n0_1 : ∀ r ∈ l0_1, r.length ≤ maxLen) (y0_1 : ∀ r ∈ l0_1, ∀ n ∈ r, (Lit.int .i64 n).wf = true) (m1 : l1.length ≤ maxLen) (y1 : ∀ n ∈ l1, (Lit.int .i64 n).wf = true) :
    Calls Try.prog 6 #[.agg #[.slice A0_0 l0_0.length c0_0, .slice A0_1 l0_1.length c0_1], .slice A1 l1.length c1] w fun e w' => e = .returned (.bool true) ∧ Below w.heap.size w w' := by
  have H0 := Aside0.mk (St.boxAt (St.start w) #[.slice A0_0 l0_0.length c0_0, .slice A0_1 l0_1.length c0_1] 34 (b := w.heap.size) (by simp only [World.size_alloc]))
  have y0_0_0 : (w.alloc (.cells #[.slice A0_0 l0_0.length c0_0, .slice A0_1 l0_1.length c0_1] 34 (0, 0))).cell? ⟨w.heap.size, 0, none⟩ = some (.slice A0_0 l0_0.length c0_0) := St.cellB H0.out 0 rfl 0 rfl
  have y0_0_1 : (w.alloc (.cells #[.slice A0_0 l0_0.length c0_0, .slice A0_1 l0_1.length c0_1] 34 (0, 0))).cell? ⟨w.heap.size, 1, none⟩ = some (.slice A0_1 l0_1.length c0_1) := St.cellB H0.out 0 rfl 1 rfl
  have C0_0 := Aside0.mk hr0_0
  have C0_1 := Aside0.mk hr0_1
  have C1 := Aside0.mk hr1
  by_cases s1 : l1.length ≤ 1048576
  case neg =>
    have b1 : decide (1048576 < (l1.length : Int)) = true := decide_eq_true (by omega)
    clear s1 hr0_0 hr0_1 hr1
    go_enter Try.func6, Try.ntmps6
    go_wp2
    go_ret
    exact ⟨by simp, H0.out.below⟩
  have b1 : decide (1048576 < (l1.length : Int)) = false := decide_eq_false (by omega)
  obtain ⟨z0, hz0, hp0⟩ := szTableau_evb l0_0 l0_1 1048576 (by omega) (by omega) m0_0 m0_1 n0_1
  have Z0 := Aside0.mk hz0
  clear hz0
  by_cases s0 : z0 < 0
  case pos =>
    have b0 : decide (z0 < 0) = true := decide_eq_true s0
    clear s0 hp0 hr0_0 hr0_1 hr1
    go_enter Try.func6, Try.ntmps6
    go_wp2_with (go_at_call 16; (with_reducible refine (szTableau_st H0.out (H0.out.came C0_0.out hc0_0) (H0.out.came C0_1.out hc0_1) Z0.out).mono ?_); rintro e w1 ⟨rfl, h_⟩; have H1 := Aside0.mk h_; clear h_ H0 y0_0_0 y0_0_1; have y1_0_0 : w1.cell? ⟨w.heap.size, 0, none⟩ = some (.slice A0_0 l0_0.length c0_0) := St.cellB H1.out 0 rfl 0 rfl; have y1_0_1 : w1.cell? ⟨w.heap.size, 1, none⟩ = some (.slice A0_1 l0_1.length c0_1) := St.cellB H1.out 0 rfl 1 rfl)
    go_wp2
    go_ret
    exact ⟨by simp, H1.out.below⟩
  have b0 : decide (z0 < 0) = false := decide_eq_false s0
  obtain ⟨qr, hs, hi⟩ := P l0_0 l0_1 l1 m0_0 y0_0 m0_1 n0_1 y0_1 m1 y1 (by omega) ⟨by omega, by omega⟩ (by omega)
  have F := Aside0.mk (And.intro (by omega : l0_0.length ≤ 1048576) (And.intro (⟨by omega, by omega⟩ : l0_1.length ≤ 1048576 ∧ bulk l0_1 ≤ 1048576) ((by omega : l1.length ≤ 1048576))))
  have Hs := Aside0.mk hs
  have Hi := Aside0.mk hi
  clear hs hi  hr0_0 hr0_1 hr1 m0_0 y0_0 m0_1 n0_1 y0_1 m1 y1
  clear P s1 s0 hp0
  go_enter Try.func6, Try.ntmps6
  go_wp2_with (go_at_call 16; (with_reducible refine (szTableau_st H0.out (H0.out.came C0_0.out hc0_0) (H0.out.came C0_1.out hc0_1) Z0.out).mono ?_); rintro e w1 ⟨rfl, h_⟩; have H1 := Aside0.mk h_; clear h_ H0 y0_0_0 y0_0_1; have y1_0_0 : w1.cell? ⟨w.heap.size, 0, none⟩ = some (.slice A0_0 l0_0.length c0_0) := St.cellB H1.out 0 rfl 0 rfl; have y1_0_1 : w1.cell? ⟨w.heap.size, 1, none⟩ = some (.slice A0_1 l0_1.length c0_1) := St.cellB H1.out 0 rfl 1 rfl)
  go_wp2_with (go_at_call 18; (with_reducible refine (toTableau_st H1.out (H1.out.came C0_0.out hc0_0) (H1.out.came C0_1.out hc0_1) (by have f_ := F.out; omega) (by have f_ := F.out; omega) (fun r h_ => by have f_ := F.out; have := bulk_mem h_; omega)).mono ?_); rintro e w2 ⟨v1_0, v1_1, ok1_0, ok1_1, rfl, h_⟩; have H2 := Aside0.mk h_; clear h_ H1 y1_0_0 y1_0_1; obtain ⟨A1_0, c1_0, rfl, _, _⟩ := H2.out.readR 0 rfl; obtain ⟨A1_1, c1_1, rfl, _, _⟩ := H2.out.readS 1 rfl)
  go_wp2_with (go_at_call 27; (with_reducible refine (toIntS_st H2.out (H2.out.came C1.out hc1) (by have f_ := F.out; omega)).mono ?_); rintro e w3 ⟨v2, ok2, rfl, h_⟩; have H3 := Aside0.mk h_; clear h_ H2)
  go_wp2_with (go_at_call 26; (with_reducible refine (spec_IsCompatible_st _ _ _ H3.out (H3.out.readR 1 rfl) (H3.out.readS 2 rfl) (H3.out.readR 0 rfl) Hs.out).mono ?_); rintro e w4 ⟨rfl, h_⟩; have H4 := Aside0.mk h_; clear h_ H3; have z3_3_0 : w4.cell? ⟨w.heap.size, 0, none⟩ = some (.slice A0_0 l0_0.length c0_0) := St.cellB H4.out 3 rfl 0 rfl; have z3_3_1 : w4.cell? ⟨w.heap.size, 1, none⟩ = some (.slice A0_1 l0_1.length c0_1) := St.cellB H4.out 3 rfl 1 rfl)
  go_wp2_with (go_at_call 18; (with_reducible refine (toTableau_st H4.out (H4.out.came C0_0.out hc0_0) (H4.out.came C0_1.out hc0_1) (by have f_ := F.out; omega) (by have f_ := F.out; omega) (fun r h_ => by have f_ := F.out; have := bulk_mem h_; omega)).mono ?_); rintro e w5 ⟨v4_0, v4_1, ok4_0, ok4_1, rfl, h_⟩; have H5 := Aside0.mk h_; clear h_ H4 z3_3_0 z3_3_1; obtain ⟨A4_0, c4_0, rfl, _, _⟩ := H5.out.readR 0 rfl; obtain ⟨A4_1, c4_1, rfl, _, _⟩ := H5.out.readS 1 rfl; have HB5 := Aside0.mk (St.box H5.out #[.slice A4_0 l0_0.length c4_0, .slice A4_1 l0_1.length c4_1] 26); clear H5)
  go_wp2_with (go_at_call 27; (with_reducible refine (toIntS_st HB5.out (HB5.out.came C1.out hc1) (by have f_ := F.out; omega)).mono ?_); rintro e w6 ⟨v5, ok5, rfl, h_⟩; have H6 := Aside0.mk h_; clear h_ HB5; have z5_1_0 : w6.cell? ⟨w5.heap.size, 0, none⟩ = some (.slice A4_0 l0_0.length c4_0) := St.cellB H6.out 1 rfl 0 rfl; have z5_1_1 : w6.cell? ⟨w5.heap.size, 1, none⟩ = some (.slice A4_1 l0_1.length c4_1) := St.cellB H6.out 1 rfl 1 rfl)
  go_wp2_with (go_at_call 28; (with_reducible refine (impl_IsCompatible_st _ _ _ H6.out (H6.out.readR 2 rfl) (H6.out.readS 3 rfl) (H6.out.readR 0 rfl) Hi.out).mono ?_); rintro e w7 ⟨rfl, h_⟩; have H7 := Aside0.mk h_; clear h_ H6 z5_1_0 z5_1_1)
  have HD7 := Aside0.mk (H7.out.quiet (below_drew (Below.refl _ _)))
  clear H7
  go_region_held3 (fun W => W.cell? ⟨w5.heap.size, 0, none⟩ = some (.slice A4_0 l0_0.length c4_0) ∧ W.cell? ⟨w5.heap.size, 1, none⟩ = some (.slice A4_1 l0_1.length c4_1) ∧ W.cell? ⟨w.heap.size, 0, none⟩ = some (.slice A0_0 l0_0.length c0_0) ∧ W.cell? ⟨w.heap.size, 1, none⟩ = some (.slice A0_1 l0_1.length c0_1)) (first | exact ⟨St.cellB HD7.out 1 rfl 0 rfl, St.cellB HD7.out 1 rfl 1 rfl, St.cellB HD7.out 7 rfl 0 rfl, St.cellB HD7.out 7 rfl 1 rfl⟩ | exact ⟨St.cellB H8.out 3 rfl 0 rfl, St.cellB H8.out 3 rfl 1 rfl, St.cellB H8.out 9 rfl 0 rfl, St.cellB H8.out 9 rfl 1 rfl⟩ | exact ⟨St.cellB H9.out 3 rfl 0 rfl, St.cellB H9.out 3 rfl 1 rfl, St.cellB H9.out 9 rfl 0 rfl, St.cellB H9.out 9 rfl 1 rfl⟩)
  (first | (go_at_call 18; (with_reducible refine (toTableau_st HD7.out (HD7.out.came C0_0.out hc0_0) (HD7.out.came C0_1.out hc0_1) (by have f_ := F.out; omega) (by have f_ := F.out; omega) (fun r h_ => by have f_ := F.out; have := bulk_mem h_; omega)).mono ?_); rintro e w8 ⟨v7_0, v7_1, ok7_0, ok7_1, rfl, h_⟩; have H8 := Aside0.mk h_; clear h_ HD7; obtain ⟨A7_0, c7_0, rfl, _, _⟩ := H8.out.readR 0 rfl; obtain ⟨A7_1, c7_1, rfl, _, _⟩ := H8.out.readS 1 rfl) | (go_at_call 11; (with_reducible refine (eqTableau_st_same H8.out (H8.out.readR 4 rfl) (H8.out.readS 5 rfl) (H8.out.readR 0 rfl) (H8.out.readS 1 rfl) (by have f_ := F.out; omega) (by have f_ := F.out; omega) (fun r h_ => by have f_ := F.out; have := bulk_mem h_; omega)).mono ?_); rintro e w9 ⟨rfl, h_⟩; have H9 := Aside0.mk h_; clear h_ H8))
  go_wp2_with (go_at_call 27; (with_reducible refine (toIntS_st H9.out (H9.out.came C1.out hc1) (by have f_ := F.out; omega)).mono ?_); rintro e w10 ⟨v9, ok9, rfl, h_⟩; have H10 := Aside0.mk h_; clear h_ H9)
  go_wp2_with (go_at_call 20; (with_reducible refine (eqIntS_st_same H10.out (H10.out.readR 3 rfl) (H10.out.readR 0 rfl) (by have f_ := F.out; omega)).mono ?_); rintro e w11 ⟨rfl, h_⟩; have H11 := Aside0.mk h_; clear h_ H10)
  go_ret
  exact ⟨by simp, H11.out.below⟩
end Go.Proofs.Ytdcdndfgdmcomaa.Walk
