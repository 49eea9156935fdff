/- The walk of the law on BottomWord, over what the law holds; condition: the law's pure statement, told below. -/
import Derived.Test.YtekjnjejgefbhaaF4
import Derived.Test.YtekjnjejgefbhaaQBase
import Derived.Test.YtekjnjejgefbhaaQBoxes
import Derived.Test.YtekjnjejgefbhaaQKeep
import Derived.Test.YtekjnjejgefbhaaQKeepInts
import Derived.Test.YtekjnjejgefbhaaQKeepRows
import Derived.Test.YtekjnjejgefbhaaQMatWord
import Derived.Test.YtekjnjejgefbhaaQMatrix
import Derived.Test.YtekjnjejgefbhaaQPairsWalk
import Derived.Test.YtekjnjejgefbhaaQRepeat
import Derived.Test.YtekjnjejgefbhaaQRows
import Derived.Test.YtekjnjejgefbhaaQSteps
import Derived.Test.YtekjnjejgefbhaaQWordOf
import Derived.IntWalk
set_option linter.unusedVariables false
set_option linter.unusedSimpArgs false
namespace Go.Proofs.Ytekjnjejgefbhaa.Walk
open Go.RowKit Go.Proofs.Ytekjnjejgefbhaa.F Go.Proofs.YtekjnjejgefbhaaW.PrintWords Go.Proofs.YtekjnjejgefbhaaW.PrintLast Go.Proofs.YtekjnjejgefbhaaW.PrintMore Go.Proofs.Ytekjnjejgefbhaa.Q
def impl_BottomWord.f (l0 : List (List Int)) : Option (List Int) := some (matWord false l0)
set_option maxHeartbeats 4000000 in
theorem impl_BottomWord.calls (A0 : Option Addr) (c0 : Nat) (l0 : List (List Int)) (r : List Int) (w : World) (hr0 : Kd.C (Kd.slice 3 (Kd.int .i64)) w A0 l0.length l0) (hc0 : l0.length ≤ c0) (h : impl_BottomWord.f l0 = some r) :
  Calls Try.prog 36 #[.slice A0 l0.length c0] w fun e w' => ∃ v0_ : Value, e = .returned (v0_) ∧ Kd.R (Kd.int .i64) 3 w' w.heap.size (fun _ => True) v0_ r ∧ Below w.heap.size w w' := by
  obtain rfl := Option.some.inj h
  clear h
  have HC := Aside0.mk (wordOf_callsB A0 c0 l0 w hr0 hc0)
  clear hr0
  go_enter Try.func36, Try.ntmps36
  go_wp2_with (go_at_call 59; (with_reducible refine HC.out.mono ?_); rintro e w1 ⟨v1, rfl, h1, h2⟩; have H1 := Aside0.mk h1; have H2 := Aside0.mk h2; clear h1 h2)
  go_ret
  exact ⟨_, rfl, H1.out, H2.out⟩

theorem spec_BottomWord_st {w W : World} {L : List Ob} {v0 : Value} (l0 : List (List Int)) {r : List Int} (h : St w W L) (hr0 : Reads (Kd.slice 3 (Kd.int .i64)) W v0 l0) (hE : Ev (fun k => spec_BottomWord.f k l0) r) :
    Calls Try.prog 35 #[v0] W fun e W' => ∃ v0_ : Value, ∃ ok0, e = .returned (v0_) ∧ St w W' (obR (Kd.int .i64) 3 w ok0 v0_ r :: L) := by
  obtain ⟨A0, c0, rfl, hc0, hC0⟩ := hr0
  obtain ⟨K, hK⟩ := hE
  refine (spec_BottomWord.calls K A0 c0 l0 r W hC0 hc0 (hK K (Nat.le_refl _))).mono ?_
  rintro e W' ⟨v0_, rfl, o0, hb⟩
  obtain ⟨ok0, h1⟩ := h.addR hb o0
  exact ⟨v0_, ok0, rfl, h1⟩
theorem impl_BottomWord_st {w W : World} {L : List Ob} {v0 : Value} (l0 : List (List Int)) {r : List Int} (h : St w W L) (hr0 : Reads (Kd.slice 3 (Kd.int .i64)) W v0 l0) (hE : impl_BottomWord.f l0 = some r) :
    Calls Try.prog 36 #[v0] W fun e W' => ∃ v0_ : Value, ∃ ok0, e = .returned (v0_) ∧ St w W' (obR (Kd.int .i64) 3 w ok0 v0_ r :: L) := by
  obtain ⟨A0, c0, rfl, hc0, hC0⟩ := hr0
  refine (impl_BottomWord.calls A0 c0 l0 r W hC0 hc0 hE).mono ?_
  rintro e W' ⟨v0_, rfl, o0, hb⟩
  obtain ⟨ok0, h1⟩ := h.addR hb o0
  exact ⟨v0_, ok0, rfl, h1⟩
/-- What the law comes to: both sides compute one value. -/
def FnExactBottomWord.Pure : Prop := ∀ (l0 : List (List Int)), (l0.length ≤ maxLen) → (∀ r ∈ l0, r.length ≤ maxLen) → (∀ r ∈ l0, ∀ n ∈ r, (Lit.int .i64 n).wf = true) → (l0.length ≤ 1048576 ∧ bulk l0 ≤ 1048576) → ∃ (qr : List Int), Ev (fun k => spec_BottomWord.f k l0) qr ∧ impl_BottomWord.f l0 = some qr ∧ qr.length ≤ 576460752303423488
set_option maxHeartbeats 8000000 in
set_option maxRecDepth 100000 in
theorem FnExactBottomWord.walk (P : FnExactBottomWord.Pure) (A0 : Option Addr) (c0 : Nat) (l0 : List (List Int)) (w : World) (hr0 : Kd.C (Kd.slice 3 (Kd.int .i64)) w A0 l0.length l0) (hc0 : l0.length ≤ c0) (m0 : l0.length ≤ maxLen) (n0 : ∀ r ∈ l0, r.length ≤ maxLen) (y0 : ∀ r ∈ l0, ∀ n ∈ r, (Lit.int .i64 n).wf = true) :
    Calls Try.prog 10 #[.slice A0 l0.length c0] w fun e w' => e = .returned (.bool true) ∧ Below w.heap.size w w' := by
  have H0 := Aside0.mk (St.start w)
  have C0 := Aside0.mk hr0
  obtain ⟨z0, hz0, hp0⟩ := szIntSS_ev l0 1048576 (by omega) (by omega) m0 n0
  have Z0 := Aside0.mk hz0
  clear hz0
  by_cases s0 : z0 < 0
  case pos =>
    have b0 : decide (z0 < 0) = true := decide_eq_true s0
    clear s0 hp0 hr0
    go_enter Try.func10, Try.ntmps10
    go_wp2_with (go_at_call 18; (with_reducible refine (szIntSS_st H0.out (H0.out.came C0.out hc0) Z0.out).mono ?_); rintro e w1 ⟨rfl, h_⟩; have H1 := Aside0.mk h_; clear h_ H0)
    go_wp2
    go_ret
    exact ⟨by simp, H1.out.below⟩
  have b0 : decide (z0 < 0) = false := decide_eq_false s0
  obtain ⟨qr, hs, hi, e0⟩ := P l0 m0 n0 y0 ⟨by omega, by omega⟩
  have F := Aside0.mk (And.intro (⟨by omega, by omega⟩ : l0.length ≤ 1048576 ∧ bulk l0 ≤ 1048576) (e0))
  have Hs := Aside0.mk hs
  have Hi := Aside0.mk hi
  clear hs hi e0 hr0 m0 n0 y0
  clear P s0 hp0
  go_enter Try.func10, Try.ntmps10
  go_wp2_with (go_at_call 18; (with_reducible refine (szIntSS_st H0.out (H0.out.came C0.out hc0) Z0.out).mono ?_); rintro e w1 ⟨rfl, h_⟩; have H1 := Aside0.mk h_; clear h_ H0)
  go_wp2_with (go_at_call 20; (with_reducible refine (toIntSS_st H1.out (H1.out.came C0.out hc0) (by have f_ := F.out; omega) (fun r h_ => by have f_ := F.out; have := bulk_mem h_; omega)).mono ?_); rintro e w2 ⟨v1, ok1, rfl, h_⟩; have H2 := Aside0.mk h_; clear h_ H1)
  go_wp2_with (go_at_call 35; (with_reducible refine (spec_BottomWord_st _ H2.out (H2.out.readS 0 rfl) Hs.out).mono ?_); rintro e w3 ⟨v2, ok2, rfl, h_⟩; have H3 := Aside0.mk h_; clear h_ H2)
  go_wp2_with (go_at_call 20; (with_reducible refine (toIntSS_st H3.out (H3.out.came C0.out hc0) (by have f_ := F.out; omega) (fun r h_ => by have f_ := F.out; have := bulk_mem h_; omega)).mono ?_); rintro e w4 ⟨v3, ok3, rfl, h_⟩; have H4 := Aside0.mk h_; clear h_ H3)
  go_wp2_with (go_at_call 36; (with_reducible refine (impl_BottomWord_st _ H4.out (H4.out.readS 0 rfl) Hi.out).mono ?_); rintro e w5 ⟨v4, ok4, rfl, h_⟩; have H5 := Aside0.mk h_; clear h_ H4)
  go_wp2_with (go_at_call 15; (with_reducible refine (eqIntS_st_same H5.out (H5.out.readR 0 rfl) (H5.out.readR 2 rfl) (by have f_ := F.out; omega)).mono ?_); rintro e w6 ⟨rfl, h_⟩; have H6 := Aside0.mk h_; clear h_ H5)
  go_wp2_with (go_at_call 20; (with_reducible refine (toIntSS_st H6.out (H6.out.came C0.out hc0) (by have f_ := F.out; omega) (fun r h_ => by have f_ := F.out; have := bulk_mem h_; omega)).mono ?_); rintro e w7 ⟨v6, ok6, rfl, h_⟩; have H7 := Aside0.mk h_; clear h_ H6)
  go_wp2_with (go_at_call 22; (with_reducible refine (eqIntSS_st_same H7.out (H7.out.readS 2 rfl) (H7.out.readS 0 rfl) (by have f_ := F.out; omega) (fun r h_ => by have f_ := F.out; have := bulk_mem h_; omega)).mono ?_); rintro e w8 ⟨rfl, h_⟩; have H8 := Aside0.mk h_; clear h_ H7)
  go_wp2_with (go_at_call 31; (refine (markIntSS_st (L' := [obS (Kd.slice 3 (Kd.int .i64)) 22 w ok6 v6 l0, obR (Kd.int .i64) 3 w ok4 v4 qr, obS (Kd.slice 3 (Kd.int .i64)) 22 w ok3 v3 (rowMarks 1 l0), obR (Kd.int .i64) 3 w ok2 v2 qr, obS (Kd.slice 3 (Kd.int .i64)) 22 w ok1 v1 l0]) H8.out 2 rfl 1 (by have f_ := F.out; omega) (by have f_ := F.out; omega) (by have f_ := F.out; omega) rfl).mono ?_); rintro e w9 ⟨rfl, h_⟩; have H9 := Aside0.mk h_; clear h_ H8)
  go_wp2_with (go_at_call 15; (with_reducible refine (eqIntS_st_same H9.out (H9.out.readR 1 rfl) (H9.out.readR 3 rfl) (by have f_ := F.out; omega)).mono ?_); rintro e w10 ⟨rfl, h_⟩; have H10 := Aside0.mk h_; clear h_ H9)
  go_wp2_with (go_at_call 16; (refine (markIntS_st (L' := [obS (Kd.slice 3 (Kd.int .i64)) 22 w ok6 v6 l0, obR (Kd.int .i64) 3 w ok4 v4 (marks 1 qr.length), obS (Kd.slice 3 (Kd.int .i64)) 22 w ok3 v3 (rowMarks 1 l0), obR (Kd.int .i64) 3 w ok2 v2 qr, obS (Kd.slice 3 (Kd.int .i64)) 22 w ok1 v1 l0]) H10.out 1 rfl 1 (by have f_ := F.out; omega) (by have f_ := F.out; omega) rfl).mono ?_); rintro e w11 ⟨rfl, h_⟩; have H11 := Aside0.mk h_; clear h_ H10)
  go_wp2_with (go_at_call 17; (refine (heldIntS_st H11.out qr.length 1 (H11.out.readR 1 rfl) (by have f_ := F.out; omega) (by have f_ := F.out; omega)).mono ?_); rintro e w12 ⟨rfl, h_⟩; have H12 := Aside0.mk h_; clear h_ H11)
  go_wp2_with (go_at_call 20; (with_reducible refine (toIntSS_st H12.out (H12.out.came C0.out hc0) (by have f_ := F.out; omega) (fun r h_ => by have f_ := F.out; have := bulk_mem h_; omega)).mono ?_); rintro e w13 ⟨v12, ok12, rfl, h_⟩; have H13 := Aside0.mk h_; clear h_ H12)
  go_wp2_with (go_at_call 36; (with_reducible refine (impl_BottomWord_st _ H13.out (H13.out.readS 0 rfl) Hi.out).mono ?_); rintro e w14 ⟨v13, ok13, rfl, h_⟩; have H14 := Aside0.mk h_; clear h_ H13)
  go_wp2_with (go_at_call 15; (with_reducible refine (eqIntS_st_same H14.out (H14.out.readR 0 rfl) (H14.out.readR 5 rfl) (by have f_ := F.out; omega)).mono ?_); rintro e w15 ⟨rfl, h_⟩; have H15 := Aside0.mk h_; clear h_ H14)
  go_wp2_with (go_at_call 17; (refine (heldIntS_st H15.out qr.length 1 (H15.out.readR 3 rfl) (by have f_ := F.out; omega) (by have f_ := F.out; omega)).mono ?_); rintro e w16 ⟨rfl, h_⟩; have H16 := Aside0.mk h_; clear h_ H15)
  go_ret
  exact ⟨by simp, H16.out.below⟩
end Go.Proofs.Ytekjnjejgefbhaa.Walk
