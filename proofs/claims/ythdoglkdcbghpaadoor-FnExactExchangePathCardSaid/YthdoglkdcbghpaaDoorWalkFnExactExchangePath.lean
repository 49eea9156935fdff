/- The walk of the law on ExchangePath, over what the law holds; condition: the law's pure statement, told below. -/
import Derived.Test.YthdoglkdcbghpaaDoorQAllB
import Derived.IntWalk
set_option linter.unusedVariables false
set_option linter.unusedSimpArgs false
namespace Go.Proofs.YthdoglkdcbghpaaDoor.Walk
open Go.RowKit Go.Proofs.YthdoglkdcbghpaaDoor.F Go.Proofs.YthdoglkdcbghpaaDoorW.PrintWords Go.Proofs.YthdoglkdcbghpaaDoorW.PrintLast Go.Proofs.YthdoglkdcbghpaaDoorW.PrintMore Go.Proofs.YthdoglkdcbghpaaDoor.Q
noncomputable def impl_ExchangePath.f (l0 l1 : List Int) : Option (List (List Int) × Bool) := if l0.length ≤ 1048576 ∧ l1.length ≤ 1048576 then some (pathF l0 l1, pathB l0 l1) else none
theorem impl_ExchangePath.calls (A0 : Option Addr) (c0 : Nat) (l0 : List Int) (A1 : Option Addr) (c1 : Nat) (l1 : List Int) (r1 : List (List Int)) (r2 : Bool) (w : World) (hr0 : Kd.C (Kd.int .i64) w A0 l0.length l0) (hc0 : l0.length ≤ c0) (hr1 : Kd.C (Kd.int .i64) w A1 l1.length l1) (hc1 : l1.length ≤ c1) (h : impl_ExchangePath.f l0 l1 = some (r1, r2)) :
  Calls Tryd.prog 14 #[.slice A0 l0.length c0, .slice A1 l1.length c1] w fun e w' => ∃ v0_ : Value, e = .returned (.tuple #[v0_, .bool r2]) ∧ Kd.S (Kd.slice 3 (Kd.int .i64)) 22 w' w.heap.size (fun _ => True) v0_ r1 ∧ Below w.heap.size w w' := by
  unfold impl_ExchangePath.f at h
  by_cases hl : l0.length ≤ 1048576 ∧ l1.length ≤ 1048576
  case neg => rw [if_neg hl] at h; cases h
  rw [if_pos hl] at h
  obtain ⟨rfl, rfl⟩ := Prod.mk.inj (Option.some.inj h)
  clear h
  refine (implPath_st (St.start w) (fun W' hW => hW.came hr0 hc0) (fun W' hW => hW.came hr1 hc1)).mono ?_
  rintro e w' ⟨v1, ok1, rfl, h1⟩
  exact ⟨v1, rfl, Kd.S_mono (h1.get 0 rfl) (fun _ _ => trivial), h1.below⟩
noncomputable def spec_ExchangePath.f (l0 l1 : List Int) : Option (List (List Int) × Bool) := if l0.length ≤ 1048576 ∧ l1.length ≤ 1048576 then some (pathF l0 l1, pathB l0 l1) else none
theorem spec_ExchangePath.calls (A0 : Option Addr) (c0 : Nat) (l0 : List Int) (A1 : Option Addr) (c1 : Nat) (l1 : List Int) (r1 : List (List Int)) (r2 : Bool) (w : World) (hr0 : Kd.C (Kd.int .i64) w A0 l0.length l0) (hc0 : l0.length ≤ c0) (hr1 : Kd.C (Kd.int .i64) w A1 l1.length l1) (hc1 : l1.length ≤ c1) (h : spec_ExchangePath.f l0 l1 = some (r1, r2)) :
  Calls Tryd.prog 13 #[.slice A0 l0.length c0, .slice A1 l1.length c1] w fun e w' => ∃ v0_ : Value, e = .returned (.tuple #[v0_, .bool r2]) ∧ Kd.S (Kd.slice 3 (Kd.int .i64)) 22 w' w.heap.size (fun _ => True) v0_ r1 ∧ Below w.heap.size w w' := by
  unfold spec_ExchangePath.f at h
  by_cases hl : l0.length ≤ 1048576 ∧ l1.length ≤ 1048576
  case neg => rw [if_neg hl] at h; cases h
  rw [if_pos hl] at h
  obtain ⟨rfl, rfl⟩ := Prod.mk.inj (Option.some.inj h)
  clear h
  refine (specPath_st (St.start w) (fun W' hW => hW.came hr0 hc0) (fun W' hW => hW.came hr1 hc1) hl.1 hl.2).mono ?_
  rintro e w' ⟨v1, ok1, rfl, h1⟩
  exact ⟨v1, rfl, Kd.S_mono (h1.get 0 rfl) (fun _ _ => trivial), h1.below⟩

theorem spec_ExchangePath_st {w W : World} {L : List Ob} {v0 v1 : Value} (l0 : List Int) (l1 : List Int) {r1 : List (List Int)} {r2 : Bool} (h : St w W L) (hr0 : Reads (Kd.int .i64) W v0 l0) (hr1 : Reads (Kd.int .i64) W v1 l1) (hE : spec_ExchangePath.f l0 l1 = some (r1, r2)) :
    Calls Tryd.prog 13 #[v0, v1] W fun e W' => ∃ v0_ : Value, ∃ ok0, e = .returned (.tuple #[v0_, .bool r2]) ∧ St w W' (obS (Kd.slice 3 (Kd.int .i64)) 22 w ok0 v0_ r1 :: L) := by
  obtain ⟨A0, c0, rfl, hc0, hC0⟩ := hr0
  obtain ⟨A1, c1, rfl, hc1, hC1⟩ := hr1
  refine (spec_ExchangePath.calls A0 c0 l0 A1 c1 l1 r1 r2 W hC0 hc0 hC1 hc1 hE).mono ?_
  rintro e W' ⟨v0_, rfl, o0, hb⟩
  obtain ⟨ok0, h1⟩ := h.addS hb o0
  exact ⟨v0_, ok0, rfl, h1⟩
theorem impl_ExchangePath_st {w W : World} {L : List Ob} {v0 v1 : Value} (l0 : List Int) (l1 : List Int) {r1 : List (List Int)} {r2 : Bool} (h : St w W L) (hr0 : Reads (Kd.int .i64) W v0 l0) (hr1 : Reads (Kd.int .i64) W v1 l1) (hE : impl_ExchangePath.f l0 l1 = some (r1, r2)) :
    Calls Tryd.prog 14 #[v0, v1] W fun e W' => ∃ v0_ : Value, ∃ ok0, e = .returned (.tuple #[v0_, .bool r2]) ∧ St w W' (obS (Kd.slice 3 (Kd.int .i64)) 22 w ok0 v0_ r1 :: L) := by
  obtain ⟨A0, c0, rfl, hc0, hC0⟩ := hr0
  obtain ⟨A1, c1, rfl, hc1, hC1⟩ := hr1
  refine (impl_ExchangePath.calls A0 c0 l0 A1 c1 l1 r1 r2 W hC0 hc0 hC1 hc1 hE).mono ?_
  rintro e W' ⟨v0_, rfl, o0, hb⟩
  obtain ⟨ok0, h1⟩ := h.addS hb o0
  exact ⟨v0_, ok0, rfl, h1⟩
/-- What the law comes to: both sides compute one value. -/
def FnExactExchangePath.Pure : Prop := ∀ (l0 : List Int) (l1 : List Int), (l0.length ≤ maxLen) → (∀ n ∈ l0, (Lit.int .i64 n).wf = true) → (l1.length ≤ maxLen) → (∀ n ∈ l1, (Lit.int .i64 n).wf = true) → (l0.length ≤ 1048576) → (l1.length ≤ 1048576) → ∃ (qr1 : List (List Int)) (qr2 : Bool), spec_ExchangePath.f l0 l1 = some (qr1, qr2) ∧ impl_ExchangePath.f l0 l1 = some (qr1, qr2) ∧ qr1.length ≤ 576460752303423488 ∧ bulk qr1 ≤ 576460752303423488
set_option maxHeartbeats 8000000 in
set_option maxRecDepth 100000 in
theorem FnExactExchangePath.walk (P : FnExactExchangePath.Pure) (A0 : Option Addr) (c0 : Nat) (l0 : List Int) (A1 : Option Addr) (c1 : Nat) (l1 : List Int) (w : World) (hr0 : Kd.C (Kd.int .i64) w A0 l0.length l0) (hc0 : l0.length ≤ c0) (hr1 : Kd.C (Kd.int .i64) w A1 l1.length l1) (hc1 : l1.length ≤ c1) (m0 : l0.length ≤ maxLen) (y0 : ∀ n ∈ l0, (Lit.int .i64 n).wf = true) (m1 : l1.length ≤ maxLen) (y1 : ∀ n ∈ l1, (Lit.int .i64 n).wf = true) :
    Calls Tryd.prog 4 #[.slice A0 l0.length c0, .slice A1 l1.length c1] w fun e w' => e = .returned (.bool true) ∧ Below w.heap.size w w' := by
  have H0 := Aside0.mk (St.start w)
  have C0 := Aside0.mk hr0
  have C1 := Aside0.mk hr1
  by_cases s0 : l0.length ≤ 1048576
  case neg =>
    have b0 : decide (1048576 < (l0.length : Int)) = true := decide_eq_true (by omega)
    clear s0 hr0 hr1
    go_enter Tryd.func4, Tryd.ntmps4
    go_wp2
    go_ret
    exact ⟨by simp, H0.out.below⟩
  have b0 : decide (1048576 < (l0.length : Int)) = false := decide_eq_false (by omega)
  by_cases s1 : l1.length ≤ 1048576
  case neg =>
    have b1 : decide (1048576 < (l1.length : Int)) = true := decide_eq_true (by omega)
    clear s1 hr0 hr1
    go_enter Tryd.func4, Tryd.ntmps4
    go_wp2
    go_ret
    exact ⟨by simp, H0.out.below⟩
  have b1 : decide (1048576 < (l1.length : Int)) = false := decide_eq_false (by omega)
  obtain ⟨qr1, qr2, hs, hi, e0⟩ := P l0 l1 m0 y0 m1 y1 (by omega) (by omega)
  have F := Aside0.mk (And.intro (by omega : l0.length ≤ 1048576) (And.intro (by omega : l1.length ≤ 1048576) (e0)))
  have Hs := Aside0.mk hs
  have Hi := Aside0.mk hi
  clear hs hi e0 hr0 hr1 m0 y0 m1 y1
  clear P s0 s1
  go_enter Tryd.func4, Tryd.ntmps4
  go_wp2_with (go_at_call 6; (with_reducible refine (toIntS_st H0.out (H0.out.came C0.out hc0) (by have f_ := F.out; omega)).mono ?_); rintro e w1 ⟨v1, ok1, rfl, h_⟩; have H1 := Aside0.mk h_; clear h_ H0)
  go_wp2_with (go_at_call 6; (with_reducible refine (toIntS_st H1.out (H1.out.came C1.out hc1) (by have f_ := F.out; omega)).mono ?_); rintro e w2 ⟨v2, ok2, rfl, h_⟩; have H2 := Aside0.mk h_; clear h_ H1)
  go_wp2_with (go_at_call 13; (with_reducible refine (spec_ExchangePath_st _ _ H2.out (H2.out.readR 1 rfl) (H2.out.readR 0 rfl) Hs.out).mono ?_); rintro e w3 ⟨v3, ok3, rfl, h_⟩; have H3 := Aside0.mk h_; clear h_ H2)
  go_wp2_with (go_at_call 6; (with_reducible refine (toIntS_st H3.out (H3.out.came C0.out hc0) (by have f_ := F.out; omega)).mono ?_); rintro e w4 ⟨v4, ok4, rfl, h_⟩; have H4 := Aside0.mk h_; clear h_ H3)
  go_wp2_with (go_at_call 6; (with_reducible refine (toIntS_st H4.out (H4.out.came C1.out hc1) (by have f_ := F.out; omega)).mono ?_); rintro e w5 ⟨v5, ok5, rfl, h_⟩; have H5 := Aside0.mk h_; clear h_ H4)
  go_wp2_with (go_at_call 14; (with_reducible refine (impl_ExchangePath_st _ _ H5.out (H5.out.readR 1 rfl) (H5.out.readR 0 rfl) Hi.out).mono ?_); rintro e w6 ⟨v6, ok6, rfl, h_⟩; have H6 := Aside0.mk h_; clear h_ H5)
  go_wp2_with (go_at_call 8; (with_reducible refine (eqIntSS_st_same H6.out (H6.out.readS 0 rfl) (H6.out.readS 3 rfl) (by have f_ := F.out; omega) (fun r h_ => by have f_ := F.out; have := bulk_mem h_; omega)).mono ?_); rintro e w7 ⟨rfl, h_⟩; have H7 := Aside0.mk h_; clear h_ H6)
  go_wp2_with (go_at_call 6; (with_reducible refine (toIntS_st H7.out (H7.out.came C0.out hc0) (by have f_ := F.out; omega)).mono ?_); rintro e w8 ⟨v8, ok8, rfl, h_⟩; have H8 := Aside0.mk h_; clear h_ H7)
  go_wp2_with (go_at_call 9; (with_reducible refine (eqIntS_st_same H8.out (H8.out.readR 3 rfl) (H8.out.readR 0 rfl) (by have f_ := F.out; omega)).mono ?_); rintro e w9 ⟨rfl, h_⟩; have H9 := Aside0.mk h_; clear h_ H8)
  go_wp2_with (go_at_call 6; (with_reducible refine (toIntS_st H9.out (H9.out.came C1.out hc1) (by have f_ := F.out; omega)).mono ?_); rintro e w10 ⟨v10, ok10, rfl, h_⟩; have H10 := Aside0.mk h_; clear h_ H9)
  go_wp2_with (go_at_call 9; (with_reducible refine (eqIntS_st_same H10.out (H10.out.readR 3 rfl) (H10.out.readR 0 rfl) (by have f_ := F.out; omega)).mono ?_); rintro e w11 ⟨rfl, h_⟩; have H11 := Aside0.mk h_; clear h_ H10)
  go_wp2_with (go_at_call 10; (refine (markIntS_st (L' := [obR (Kd.int .i64) 3 w ok10 v10 l1, obR (Kd.int .i64) 3 w ok8 v8 l0, obS (Kd.slice 3 (Kd.int .i64)) 22 w ok6 v6 qr1, obR (Kd.int .i64) 3 w ok5 v5 l1, obR (Kd.int .i64) 3 w ok4 v4 (marks 1 l0.length), obS (Kd.slice 3 (Kd.int .i64)) 22 w ok3 v3 qr1, obR (Kd.int .i64) 3 w ok2 v2 l1, obR (Kd.int .i64) 3 w ok1 v1 l0]) H11.out 4 rfl 1 (by have f_ := F.out; omega) (by have f_ := F.out; omega) rfl).mono ?_); rintro e w12 ⟨rfl, h_⟩; have H12 := Aside0.mk h_; clear h_ H11)
  go_wp2_with (go_at_call 10; (refine (markIntS_st (L' := [obR (Kd.int .i64) 3 w ok10 v10 l1, obR (Kd.int .i64) 3 w ok8 v8 l0, obS (Kd.slice 3 (Kd.int .i64)) 22 w ok6 v6 qr1, obR (Kd.int .i64) 3 w ok5 v5 (marks (1 + l0.length) l1.length), obR (Kd.int .i64) 3 w ok4 v4 (marks 1 l0.length), obS (Kd.slice 3 (Kd.int .i64)) 22 w ok3 v3 qr1, obR (Kd.int .i64) 3 w ok2 v2 l1, obR (Kd.int .i64) 3 w ok1 v1 l0]) H12.out 3 rfl (1 + l0.length) (by have f_ := F.out; omega) (by have f_ := F.out; omega) rfl).mono ?_); rintro e w13 ⟨rfl, h_⟩; have H13 := Aside0.mk h_; clear h_ H12)
  go_wp2_with (go_at_call 8; (with_reducible refine (eqIntSS_st_same H13.out (H13.out.readS 2 rfl) (H13.out.readS 5 rfl) (by have f_ := F.out; omega) (fun r h_ => by have f_ := F.out; have := bulk_mem h_; omega)).mono ?_); rintro e w14 ⟨rfl, h_⟩; have H14 := Aside0.mk h_; clear h_ H13)
  go_wp2_with (go_at_call 11; (refine (markIntSS_st (L' := [obR (Kd.int .i64) 3 w ok10 v10 l1, obR (Kd.int .i64) 3 w ok8 v8 l0, obS (Kd.slice 3 (Kd.int .i64)) 22 w ok6 v6 (rowMarks 1 qr1), obR (Kd.int .i64) 3 w ok5 v5 (marks (1 + l0.length) l1.length), obR (Kd.int .i64) 3 w ok4 v4 (marks 1 l0.length), obS (Kd.slice 3 (Kd.int .i64)) 22 w ok3 v3 qr1, obR (Kd.int .i64) 3 w ok2 v2 l1, obR (Kd.int .i64) 3 w ok1 v1 l0]) H14.out 2 rfl 1 (by have f_ := F.out; omega) (by have f_ := F.out; omega) (by have f_ := F.out; omega) rfl).mono ?_); rintro e w15 ⟨rfl, h_⟩; have H15 := Aside0.mk h_; clear h_ H14)
  go_wp2_with (go_at_call 12; (refine (heldIntSS_st H15.out qr1 1 (H15.out.readS 2 rfl) (by have f_ := F.out; omega) (by have f_ := F.out; omega) (by have f_ := F.out; omega)).mono ?_); rintro e w16 ⟨rfl, h_⟩; have H16 := Aside0.mk h_; clear h_ H15)
  go_wp2_with (go_at_call 6; (with_reducible refine (toIntS_st H16.out (H16.out.came C0.out hc0) (by have f_ := F.out; omega)).mono ?_); rintro e w17 ⟨v17, ok17, rfl, h_⟩; have H17 := Aside0.mk h_; clear h_ H16)
  go_wp2_with (go_at_call 6; (with_reducible refine (toIntS_st H17.out (H17.out.came C1.out hc1) (by have f_ := F.out; omega)).mono ?_); rintro e w18 ⟨v18, ok18, rfl, h_⟩; have H18 := Aside0.mk h_; clear h_ H17)
  go_wp2_with (go_at_call 14; (with_reducible refine (impl_ExchangePath_st _ _ H18.out (H18.out.readR 1 rfl) (H18.out.readR 0 rfl) Hi.out).mono ?_); rintro e w19 ⟨v19, ok19, rfl, h_⟩; have H19 := Aside0.mk h_; clear h_ H18)
  go_wp2_with (go_at_call 8; (with_reducible refine (eqIntSS_st_same H19.out (H19.out.readS 0 rfl) (H19.out.readS 8 rfl) (by have f_ := F.out; omega) (fun r h_ => by have f_ := F.out; have := bulk_mem h_; omega)).mono ?_); rintro e w20 ⟨rfl, h_⟩; have H20 := Aside0.mk h_; clear h_ H19)
  go_wp2_with (go_at_call 12; (refine (heldIntSS_st H20.out qr1 1 (H20.out.readS 5 rfl) (by have f_ := F.out; omega) (by have f_ := F.out; omega) (by have f_ := F.out; omega)).mono ?_); rintro e w21 ⟨rfl, h_⟩; have H21 := Aside0.mk h_; clear h_ H20)
  go_ret
  exact ⟨by simp, H21.out.below⟩
end Go.Proofs.YthdoglkdcbghpaaDoor.Walk
