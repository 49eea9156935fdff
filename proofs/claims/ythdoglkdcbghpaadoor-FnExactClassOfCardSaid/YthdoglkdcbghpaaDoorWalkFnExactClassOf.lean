/- The walk of the law on ClassOf, over what the law holds; condition: the law's pure statement, told below. -/
import Derived.Test.YthdoglkdcbghpaaDoorQAllB
import Derived.IntWalk
set_option linter.unusedVariables false
set_option linter.unusedSimpArgs false
namespace Go.Proofs.YthdoglkdcbghpaaDoor.Walk
open Go.RowKit Go.Proofs.YthdoglkdcbghpaaDoor.F Go.Proofs.YthdoglkdcbghpaaDoorW.PrintWords Go.Proofs.YthdoglkdcbghpaaDoorW.PrintLast Go.Proofs.YthdoglkdcbghpaaDoorW.PrintMore Go.Proofs.YthdoglkdcbghpaaDoor.Q
def impl_ClassOf.f (l0 : List Int) : Option (List (List Int)) := if l0.length ≤ 1048576 then some (classW l0) else none
theorem impl_ClassOf.calls (A0 : Option Addr) (c0 : Nat) (l0 : List Int) (r : List (List Int)) (w : World) (hr0 : Kd.C (Kd.int .i64) w A0 l0.length l0) (hc0 : l0.length ≤ c0) (h : impl_ClassOf.f l0 = some r) :
  Calls Tryd.prog 7 #[.slice A0 l0.length c0] w fun e w' => ∃ v0_ : Value, e = .returned (v0_) ∧ Kd.S (Kd.slice 3 (Kd.int .i64)) 22 w' w.heap.size (fun _ => True) v0_ r ∧ Below w.heap.size w w' := by
  unfold impl_ClassOf.f at h
  by_cases hl : l0.length ≤ 1048576
  case neg => rw [if_neg hl] at h; cases h
  rw [if_pos hl] at h
  obtain rfl := Option.some.inj h
  clear h
  refine (implClass_st (St.start w) (fun W' hW => hW.came hr0 hc0) hl).mono ?_
  rintro e w' ⟨v1, ok1, rfl, h1⟩
  exact ⟨v1, rfl, Kd.S_mono (h1.get 0 rfl) (fun _ _ => trivial), h1.below⟩
def spec_ClassOf.f (l0 : List Int) : Option (List (List Int)) := if l0.length ≤ 1048576 then some (classW l0) else none
theorem spec_ClassOf.calls (A0 : Option Addr) (c0 : Nat) (l0 : List Int) (r : List (List Int)) (w : World) (hr0 : Kd.C (Kd.int .i64) w A0 l0.length l0) (hc0 : l0.length ≤ c0) (h : spec_ClassOf.f l0 = some r) :
  Calls Tryd.prog 5 #[.slice A0 l0.length c0] w fun e w' => ∃ v0_ : Value, e = .returned (v0_) ∧ Kd.S (Kd.slice 3 (Kd.int .i64)) 22 w' w.heap.size (fun _ => True) v0_ r ∧ Below w.heap.size w w' := by
  unfold spec_ClassOf.f at h
  by_cases hl : l0.length ≤ 1048576
  case neg => rw [if_neg hl] at h; cases h
  rw [if_pos hl] at h
  obtain rfl := Option.some.inj h
  clear h
  refine (specClass_st (St.start w) (fun W' hW => hW.came hr0 hc0) hl).mono ?_
  rintro e w' ⟨v1, ok1, rfl, h1⟩
  exact ⟨v1, rfl, Kd.S_mono (h1.get 0 rfl) (fun _ _ => trivial), h1.below⟩

theorem spec_ClassOf_st {w W : World} {L : List Ob} {v0 : Value} (l0 : List Int) {r : List (List Int)} (h : St w W L) (hr0 : Reads (Kd.int .i64) W v0 l0) (hE : spec_ClassOf.f l0 = some r) :
    Calls Tryd.prog 5 #[v0] W fun e W' => ∃ v0_ : Value, ∃ ok0, e = .returned (v0_) ∧ St w W' (obS (Kd.slice 3 (Kd.int .i64)) 22 w ok0 v0_ r :: L) := by
  obtain ⟨A0, c0, rfl, hc0, hC0⟩ := hr0
  refine (spec_ClassOf.calls A0 c0 l0 r W hC0 hc0 hE).mono ?_
  rintro e W' ⟨v0_, rfl, o0, hb⟩
  obtain ⟨ok0, h1⟩ := h.addS hb o0
  exact ⟨v0_, ok0, rfl, h1⟩
theorem impl_ClassOf_st {w W : World} {L : List Ob} {v0 : Value} (l0 : List Int) {r : List (List Int)} (h : St w W L) (hr0 : Reads (Kd.int .i64) W v0 l0) (hE : impl_ClassOf.f l0 = some r) :
    Calls Tryd.prog 7 #[v0] W fun e W' => ∃ v0_ : Value, ∃ ok0, e = .returned (v0_) ∧ St w W' (obS (Kd.slice 3 (Kd.int .i64)) 22 w ok0 v0_ r :: L) := by
  obtain ⟨A0, c0, rfl, hc0, hC0⟩ := hr0
  refine (impl_ClassOf.calls A0 c0 l0 r W hC0 hc0 hE).mono ?_
  rintro e W' ⟨v0_, rfl, o0, hb⟩
  obtain ⟨ok0, h1⟩ := h.addS hb o0
  exact ⟨v0_, ok0, rfl, h1⟩
/-- What the law comes to: both sides compute one value. -/
def FnExactClassOf.Pure : Prop := ∀ (l0 : List Int), (l0.length ≤ maxLen) → (∀ n ∈ l0, (Lit.int .i64 n).wf = true) → (l0.length ≤ 1048576) → ∃ (qr : List (List Int)), spec_ClassOf.f l0 = some qr ∧ impl_ClassOf.f l0 = some qr ∧ qr.length ≤ 576460752303423488 ∧ bulk qr ≤ 576460752303423488
set_option maxHeartbeats 8000000 in
set_option maxRecDepth 100000 in
theorem FnExactClassOf.walk (P : FnExactClassOf.Pure) (A0 : Option Addr) (c0 : Nat) (l0 : List Int) (w : World) (hr0 : Kd.C (Kd.int .i64) w A0 l0.length l0) (hc0 : l0.length ≤ c0) (m0 : l0.length ≤ maxLen) (y0 : ∀ n ∈ l0, (Lit.int .i64 n).wf = true) :
    Calls Tryd.prog 3 #[.slice A0 l0.length c0] w fun e w' => e = .returned (.bool true) ∧ Below w.heap.size w w' := by
  have H0 := Aside0.mk (St.start w)
  have C0 := Aside0.mk hr0
  by_cases s0 : l0.length ≤ 1048576
  case neg =>
    have b0 : decide (1048576 < (l0.length : Int)) = true := decide_eq_true (by omega)
    clear s0 hr0
    go_enter Tryd.func3, Tryd.ntmps3
    go_wp2
    go_ret
    exact ⟨by simp, H0.out.below⟩
  have b0 : decide (1048576 < (l0.length : Int)) = false := decide_eq_false (by omega)
  obtain ⟨qr, hs, hi, e0⟩ := P l0 m0 y0 (by omega)
  have F := Aside0.mk (And.intro (by omega : l0.length ≤ 1048576) (e0))
  have Hs := Aside0.mk hs
  have Hi := Aside0.mk hi
  clear hs hi e0 hr0 m0 y0
  clear P s0
  go_enter Tryd.func3, Tryd.ntmps3
  go_wp2_with (go_at_call 6; (with_reducible refine (toIntS_st H0.out (H0.out.came C0.out hc0) (by have f_ := F.out; omega)).mono ?_); rintro e w1 ⟨v1, ok1, rfl, h_⟩; have H1 := Aside0.mk h_; clear h_ H0)
  go_wp2_with (go_at_call 5; (with_reducible refine (spec_ClassOf_st _ H1.out (H1.out.readR 0 rfl) Hs.out).mono ?_); rintro e w2 ⟨v2, ok2, rfl, h_⟩; have H2 := Aside0.mk h_; clear h_ H1)
  go_wp2_with (go_at_call 6; (with_reducible refine (toIntS_st H2.out (H2.out.came C0.out hc0) (by have f_ := F.out; omega)).mono ?_); rintro e w3 ⟨v3, ok3, rfl, h_⟩; have H3 := Aside0.mk h_; clear h_ H2)
  go_wp2_with (go_at_call 7; (with_reducible refine (impl_ClassOf_st _ H3.out (H3.out.readR 0 rfl) Hi.out).mono ?_); rintro e w4 ⟨v4, ok4, rfl, h_⟩; have H4 := Aside0.mk h_; clear h_ H3)
  go_wp2_with (go_at_call 8; (with_reducible refine (eqIntSS_st_same H4.out (H4.out.readS 0 rfl) (H4.out.readS 2 rfl) (by have f_ := F.out; omega) (fun r h_ => by have f_ := F.out; have := bulk_mem h_; omega)).mono ?_); rintro e w5 ⟨rfl, h_⟩; have H5 := Aside0.mk h_; clear h_ H4)
  go_wp2_with (go_at_call 6; (with_reducible refine (toIntS_st H5.out (H5.out.came C0.out hc0) (by have f_ := F.out; omega)).mono ?_); rintro e w6 ⟨v6, ok6, rfl, h_⟩; have H6 := Aside0.mk h_; clear h_ H5)
  go_wp2_with (go_at_call 9; (with_reducible refine (eqIntS_st_same H6.out (H6.out.readR 2 rfl) (H6.out.readR 0 rfl) (by have f_ := F.out; omega)).mono ?_); rintro e w7 ⟨rfl, h_⟩; have H7 := Aside0.mk h_; clear h_ H6)
  go_wp2_with (go_at_call 10; (refine (markIntS_st (L' := [obR (Kd.int .i64) 3 w ok6 v6 l0, obS (Kd.slice 3 (Kd.int .i64)) 22 w ok4 v4 qr, obR (Kd.int .i64) 3 w ok3 v3 (marks 1 l0.length), obS (Kd.slice 3 (Kd.int .i64)) 22 w ok2 v2 qr, obR (Kd.int .i64) 3 w ok1 v1 l0]) H7.out 2 rfl 1 (by have f_ := F.out; omega) (by have f_ := F.out; omega) rfl).mono ?_); rintro e w8 ⟨rfl, h_⟩; have H8 := Aside0.mk h_; clear h_ H7)
  go_wp2_with (go_at_call 8; (with_reducible refine (eqIntSS_st_same H8.out (H8.out.readS 1 rfl) (H8.out.readS 3 rfl) (by have f_ := F.out; omega) (fun r h_ => by have f_ := F.out; have := bulk_mem h_; omega)).mono ?_); rintro e w9 ⟨rfl, h_⟩; have H9 := Aside0.mk h_; clear h_ H8)
  go_wp2_with (go_at_call 11; (refine (markIntSS_st (L' := [obR (Kd.int .i64) 3 w ok6 v6 l0, obS (Kd.slice 3 (Kd.int .i64)) 22 w ok4 v4 (rowMarks 1 qr), obR (Kd.int .i64) 3 w ok3 v3 (marks 1 l0.length), obS (Kd.slice 3 (Kd.int .i64)) 22 w ok2 v2 qr, obR (Kd.int .i64) 3 w ok1 v1 l0]) H9.out 1 rfl 1 (by have f_ := F.out; omega) (by have f_ := F.out; omega) (by have f_ := F.out; omega) rfl).mono ?_); rintro e w10 ⟨rfl, h_⟩; have H10 := Aside0.mk h_; clear h_ H9)
  go_wp2_with (go_at_call 12; (refine (heldIntSS_st H10.out qr 1 (H10.out.readS 1 rfl) (by have f_ := F.out; omega) (by have f_ := F.out; omega) (by have f_ := F.out; omega)).mono ?_); rintro e w11 ⟨rfl, h_⟩; have H11 := Aside0.mk h_; clear h_ H10)
  go_wp2_with (go_at_call 6; (with_reducible refine (toIntS_st H11.out (H11.out.came C0.out hc0) (by have f_ := F.out; omega)).mono ?_); rintro e w12 ⟨v12, ok12, rfl, h_⟩; have H12 := Aside0.mk h_; clear h_ H11)
  go_wp2_with (go_at_call 7; (with_reducible refine (impl_ClassOf_st _ H12.out (H12.out.readR 0 rfl) Hi.out).mono ?_); rintro e w13 ⟨v13, ok13, rfl, h_⟩; have H13 := Aside0.mk h_; clear h_ H12)
  go_wp2_with (go_at_call 8; (with_reducible refine (eqIntSS_st_same H13.out (H13.out.readS 0 rfl) (H13.out.readS 5 rfl) (by have f_ := F.out; omega) (fun r h_ => by have f_ := F.out; have := bulk_mem h_; omega)).mono ?_); rintro e w14 ⟨rfl, h_⟩; have H14 := Aside0.mk h_; clear h_ H13)
  go_wp2_with (go_at_call 12; (refine (heldIntSS_st H14.out qr 1 (H14.out.readS 3 rfl) (by have f_ := F.out; omega) (by have f_ := F.out; omega) (by have f_ := F.out; omega)).mono ?_); rintro e w15 ⟨rfl, h_⟩; have H15 := Aside0.mk h_; clear h_ H14)
  go_ret
  exact ⟨by simp, H15.out.below⟩
end Go.Proofs.YthdoglkdcbghpaaDoor.Walk
