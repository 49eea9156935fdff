/- The walk of the law on RemoveHorizontal, over what the law holds; condition: the law's pure statement, told below. -/
import Derived.Test.YtaghidcmefbjdaaQAll
import Derived.IntWalk
set_option linter.unusedVariables false
set_option linter.unusedSimpArgs false
namespace Go.Proofs.Ytaghidcmefbjdaa.Walk
open Go.RowKit Go.Proofs.Ytaghidcmefbjdaa.F Go.Proofs.YtaghidcmefbjdaaW.PrintWords Go.Proofs.YtaghidcmefbjdaaW.PrintLast Go.Proofs.YtaghidcmefbjdaaW.PrintMore Go.Proofs.Ytaghidcmefbjdaa.Q
theorem specPart_st {w W : World} {L : List Ob} {v : Value} {p : List Int} {b : Bool} (h : St w W L) (hr : Reads (Kd.int .i64) W v p) (hl : p.length ≤ 1048576) (hb : isPartition p = b) :
    Calls Try.prog 37 #[v] W fun e W' => e = .returned (.bool b) ∧ St w W' L := by
  obtain ⟨A, c, rfl, hc, hC⟩ := hr
  obtain ⟨K, hK⟩ := ev_eq (spec_IsPartition_ev p hl) hb
  refine (spec_IsPartition.calls K A c p b W hC hc (hK K (Nat.le_refl _))).mono ?_
  rintro e W' ⟨rfl, hd⟩
  exact ⟨rfl, h.drawn hd⟩
theorem l1In_st {w W : World} {L : List Ob} {x a b : Int} {q : Bool} (h : St w W L) (hq : decide (a ≤ x ∧ x ≤ b) = q) :
    Calls Try.prog 38 #[.int .i64 x, .int .i64 a, .int .i64 b] W fun e W' => e = .returned (.bool q) ∧ St w W' L := by
  subst hq
  refine (spec_l1In.calls x a b _ W (spec_l1In_eq x a b)).mono ?_
  rintro e W' ⟨rfl, hd⟩
  exact ⟨rfl, h.drawn hd⟩
theorem hStrip_acc : Acc 42 hStrip := by
  intro W A0 c0 o A1 c1 i ho hi hC0 hc0 hC1 hc1
  obtain ⟨K, hK⟩ := impl_hStrip_ev ho hi
  exact impl_IsHorizontalStrip.calls K A0 c0 o A1 c1 i _ W hC0 hc0 hC1 hc1 (hK K (Nat.le_refl _))
def impl_RemoveHorizontal.f (l0 : List Int) (a1 : Int) : Option (List (List Int)) := if l0.length ≤ 1048576 then some (removedBy hStrip l0 a1) else none
set_option maxHeartbeats 4000000 in
theorem impl_RemoveHorizontal.calls (A0 : Option Addr) (c0 : Nat) (l0 : List Int) (a1 : Int) (r : List (List Int)) (w : World) (hr0 : Kd.C (Kd.int .i64) w A0 l0.length l0) (hc0 : l0.length ≤ c0) (h : impl_RemoveHorizontal.f l0 a1 = some r) :
  Calls Try.prog 11 #[.slice A0 l0.length c0, .int .i64 a1] w fun e w' => ∃ v0_ : Value, e = .returned (v0_) ∧ Kd.S (Kd.slice 3 (Kd.int .i64)) 22 w' w.heap.size (fun _ => True) v0_ r ∧ Below w.heap.size w w' := by
  unfold impl_RemoveHorizontal.f at h
  by_cases hl : l0.length ≤ 1048576
  case neg => rw [if_neg hl] at h; cases h
  rw [if_pos hl] at h
  obtain rfl := Option.some.inj h
  clear h
  have HC := Aside0.mk (removed_calls 42 hStrip (enters_of Try.func42 (by kernel_rfl) rfl) hStrip_acc A0 c0 l0 a1 w hr0 hc0 hl)
  clear hr0
  go_enter Try.func11, Try.ntmps11
  go_wp2_with (go_at_call 41; (with_reducible refine HC.out.mono ?_); rintro e w1 ⟨v1, rfl, h1, h2⟩; have H1 := Aside0.mk h1; have H2 := Aside0.mk h2; clear h1 h2)
  go_ret
  exact ⟨_, rfl, H1.out, H2.out⟩
def spec_RemoveHorizontal.f (l0 : List Int) (a1 : Int) : Option (List (List Int)) := if l0.length ≤ 1048576 then some (removedBy hStrip l0 a1) else none
set_option maxHeartbeats 4000000 in
set_option maxRecDepth 100000 in
theorem spec_RemoveHorizontal.calls (A0 : Option Addr) (c0 : Nat) (l0 : List Int) (a1 : Int) (r : List (List Int)) (w : World) (hr0 : Kd.C (Kd.int .i64) w A0 l0.length l0) (hc0 : l0.length ≤ c0) (h : spec_RemoveHorizontal.f l0 a1 = some r) :
  Calls Try.prog 9 #[.slice A0 l0.length c0, .int .i64 a1] w fun e w' => ∃ v0_ : Value, e = .returned (v0_) ∧ Kd.S (Kd.slice 3 (Kd.int .i64)) 22 w' w.heap.size (fun _ => True) v0_ r ∧ Below w.heap.size w w' := by
  unfold spec_RemoveHorizontal.f at h
  by_cases hl : l0.length ≤ 1048576
  case neg => rw [if_neg hl] at h; cases h
  rw [if_pos hl] at h
  obtain rfl := Option.some.inj h
  clear h
  have H0 := Aside0.mk (St.start w)
  have C0 := Aside0.mk hr0
  clear hr0
  unfold removedBy
  cases hp : isPartition l0 with
  | false =>
    rw [if_neg (fun e => by cases e.1)]
    have HB := Aside0.mk hp
    clear hp
    go_enter Try.func9, Try.ntmps9
    go_wp2_with (first
      | (go_at_call 37; (with_reducible refine (specPart_st H0.out (H0.out.came C0.out hc0) hl HB.out).mono ?_); rintro e w1 ⟨rfl, h_⟩; have H1 := Aside0.mk h_; clear h_)
      | ((with_reducible refine gate_dst (N := 15) rfl ?_); refine St.lit0 (Kd.slice 3 (Kd.int .i64)) 22 (N := 15) rfl rfl ?hr H1.out ?_; (case hr => first | (go_simp; done) | (go_simp; rfl)); intro v9 w9 ok9 h_; have H9 := Aside0.mk h_; clear h_))
    go_ret
    exact ⟨_, rfl, Kd.S_mono (H9.out.get 0 rfl) (fun _ _ => trivial), H9.out.below⟩
  | true =>
    have HB := Aside0.mk hp
    have hb1 := (isPartition_bd hp).1
    obtain ⟨s, hs⟩ : ∃ s, isum l0 = s := ⟨_, rfl⟩
    have HS := Aside0.mk hs
    rw [hs] at hb1 ⊢
    by_cases hk : 0 ≤ a1 ∧ a1 ≤ s
    case neg =>
      rw [if_neg (fun e => hk e.2)]
      have HK := Aside0.mk (decide_eq_false hk)
      clear hk hp hs
      go_enter Try.func9, Try.ntmps9
      go_wp2_with (first
        | (go_at_call 37; (with_reducible refine (specPart_st H0.out (H0.out.came C0.out hc0) hl HB.out).mono ?_); rintro e w1 ⟨rfl, h_⟩; have H1 := Aside0.mk h_; clear h_)
        | (go_at_call 39; (with_reducible refine (l2Size_st H1.out (H1.out.came C0.out hc0) HB.out HS.out).mono ?_); rintro e w2 ⟨rfl, h_⟩; have H2 := Aside0.mk h_; clear h_)
        | (go_at_call 38; (with_reducible refine (l1In_st H2.out HK.out).mono ?_); rintro e w3 ⟨rfl, h_⟩; have H3 := Aside0.mk h_; clear h_)
        | ((with_reducible refine gate_dst (N := 15) rfl ?_); refine St.lit0 (Kd.slice 3 (Kd.int .i64)) 22 (N := 15) rfl rfl ?hr H3.out ?_; (case hr => first | (go_simp; done) | (go_simp; rfl)); intro v9 w9 ok9 h_; have H9 := Aside0.mk h_; clear h_))
      go_ret
      exact ⟨_, rfl, Kd.S_mono (H9.out.get 0 rfl) (fun _ _ => trivial), H9.out.below⟩
    case pos =>
      rw [if_pos ⟨rfl, hk⟩]
      have HK := Aside0.mk (decide_eq_true hk)
      obtain ⟨N, hN⟩ : ∃ N : Nat, N = (s - a1).toNat := ⟨_, rfl⟩
      have eN : IntKind.i64.wrap (s - a1) = (N : Int) := by rw [IntWalk.i64_in _ (by omega)]; omega
      have HN : Aside0 (N ≤ 9 ∧ (N : Int) ≤ s ∧ 0 ≤ s) := ⟨by omega⟩
      rw [← hN]
      have HC : Aside0 (∀ W : World, Kd.C (Kd.int .i64) W A0 l0.length l0 → Calls Try.prog 40 #[.slice A0 l0.length c0, .int .i64 (N : Int), .int .i64 0] W fun e w' => ∃ v, e = .returned v ∧ Kd.S (Kd.slice 3 (Kd.int .i64)) 22 w' W.heap.size (fun _ => True) v ((partsOf N).filter (fun q => hStrip l0 q)) ∧ Below W.heap.size W w') := ⟨fun W hW => by
        by_cases hlt : (N : Int) < s
        · exact PickHDn_calls A0 c0 l0 W hW hc0 hp N HN.out.1 (by rw [hs]; exact hlt)
        · have h1 := PickHUp_calls A0 c0 l0 W hW hc0 hp N HN.out.1 (by rw [hs]; omega)
          have h2 : (partsOf N).filter (fun q => hStrip q l0) = (partsOf N).filter (fun q => hStrip l0 q) := List.filter_congr (fun q hq => by
            obtain ⟨q1, q2⟩ := (partsOf_mem HN.out.1).1 hq
            exact hStrip_same q1 hp (by rw [q2, hs]; have := HN.out; omega))
          rwa [h2] at h1⟩
      clear hk hN hp hs
      go_enter Try.func9, Try.ntmps9
      go_wp2_with (first
        | (go_at_call 37; (with_reducible refine (specPart_st H0.out (H0.out.came C0.out hc0) hl HB.out).mono ?_); rintro e w1 ⟨rfl, h_⟩; have H1 := Aside0.mk h_; clear h_)
        | (go_at_call 39; (with_reducible refine (l2Size_st H1.out (H1.out.came C0.out hc0) HB.out HS.out).mono ?_); rintro e w2 ⟨rfl, h_⟩; have H2 := Aside0.mk h_; clear h_)
        | (go_at_call 38; (with_reducible refine (l1In_st H2.out HK.out).mono ?_); rintro e w3 ⟨rfl, h_⟩; have H3 := Aside0.mk h_; clear h_)
        | (go_at_call 39; (with_reducible refine (l2Size_st H3.out (H3.out.came C0.out hc0) HB.out HS.out).mono ?_); rintro e w4 ⟨rfl, h_⟩; have H4 := Aside0.mk h_; clear h_)
        | (go_at_call 40; refine (HC.out _ (Reads.C (H4.out.came C0.out hc0)).2).mono ?_; rintro e w5 ⟨v5, rfl, h1_, h2_⟩; obtain ⟨ok5, h_⟩ := H4.out.addS h2_ h1_; have H5 := Aside0.mk h_; clear h1_ h2_ h_))
      go_ret
      exact ⟨_, rfl, Kd.S_mono (H5.out.get 0 rfl) (fun _ _ => trivial), H5.out.below⟩

theorem spec_RemoveHorizontal_st {w W : World} {L : List Ob} {v0 : Value} (l0 : List Int) (a1 : Int) {r : List (List Int)} (h : St w W L) (hr0 : Reads (Kd.int .i64) W v0 l0) (hE : spec_RemoveHorizontal.f l0 a1 = some r) :
    Calls Try.prog 9 #[v0, .int .i64 a1] W fun e W' => ∃ v0_ : Value, ∃ ok0, e = .returned (v0_) ∧ St w W' (obS (Kd.slice 3 (Kd.int .i64)) 22 w ok0 v0_ r :: L) := by
  obtain ⟨A0, c0, rfl, hc0, hC0⟩ := hr0
  refine (spec_RemoveHorizontal.calls A0 c0 l0 a1 r W hC0 hc0 hE).mono ?_
  rintro e W' ⟨v0_, rfl, o0, hb⟩
  obtain ⟨ok0, h1⟩ := h.addS hb o0
  exact ⟨v0_, ok0, rfl, h1⟩
theorem impl_RemoveHorizontal_st {w W : World} {L : List Ob} {v0 : Value} (l0 : List Int) (a1 : Int) {r : List (List Int)} (h : St w W L) (hr0 : Reads (Kd.int .i64) W v0 l0) (hE : impl_RemoveHorizontal.f l0 a1 = some r) :
    Calls Try.prog 11 #[v0, .int .i64 a1] W fun e W' => ∃ v0_ : Value, ∃ ok0, e = .returned (v0_) ∧ St w W' (obS (Kd.slice 3 (Kd.int .i64)) 22 w ok0 v0_ r :: L) := by
  obtain ⟨A0, c0, rfl, hc0, hC0⟩ := hr0
  refine (impl_RemoveHorizontal.calls A0 c0 l0 a1 r W hC0 hc0 hE).mono ?_
  rintro e W' ⟨v0_, rfl, o0, hb⟩
  obtain ⟨ok0, h1⟩ := h.addS hb o0
  exact ⟨v0_, ok0, rfl, h1⟩
/-- What the law comes to: both sides compute one value. -/
def FnExactRemoveHorizontal.Pure : Prop := ∀ (l0 : List Int) (a1 : Int), (l0.length ≤ maxLen) → (∀ n ∈ l0, (Lit.int .i64 n).wf = true) → ((Lit.int .i64 a1).wf = true) → (l0.length ≤ 1048576) → ∃ (qr : List (List Int)), spec_RemoveHorizontal.f l0 a1 = some qr ∧ impl_RemoveHorizontal.f l0 a1 = some qr ∧ qr.length ≤ 576460752303423488 ∧ bulk qr ≤ 576460752303423488
set_option maxHeartbeats 8000000 in
set_option maxRecDepth 100000 in
theorem FnExactRemoveHorizontal.walk (P : FnExactRemoveHorizontal.Pure) (A0 : Option Addr) (c0 : Nat) (l0 : List Int) (a1 : Int) (w : World) (hr0 : Kd.C (Kd.int .i64) w A0 l0.length l0) (hc0 : l0.length ≤ c0) (m0 : l0.length ≤ maxLen) (y0 : ∀ n ∈ l0, (Lit.int .i64 n).wf = true) (y1 : (Lit.int .i64 a1).wf = true) :
    Calls Try.prog 3 #[.slice A0 l0.length c0, .int .i64 a1] w fun e w' => e = .returned (.bool true) ∧ Below w.heap.size w w' := by
  have H0 := Aside0.mk (St.start w)
  have C0 := Aside0.mk hr0
  by_cases s0 : l0.length ≤ 1048576
  case neg =>
    have b0 : decide (1048576 < (l0.length : Int)) = true := decide_eq_true (by omega)
    clear s0 hr0
    go_enter Try.func3, Try.ntmps3
    go_wp2
    go_ret
    exact ⟨by simp, H0.out.below⟩
  have b0 : decide (1048576 < (l0.length : Int)) = false := decide_eq_false (by omega)
  obtain ⟨qr, hs, hi, e0⟩ := P l0 a1 m0 y0 y1 (by omega)
  have F := Aside0.mk (And.intro (by omega : l0.length ≤ 1048576) (e0))
  have Hs := Aside0.mk hs
  have Hi := Aside0.mk hi
  clear hs hi e0 hr0 m0 y0 y1
  clear P s0
  go_enter Try.func3, Try.ntmps3
  go_wp2_with (go_at_call 10; (with_reducible refine (toIntS_st H0.out (H0.out.came C0.out hc0) (by have f_ := F.out; omega)).mono ?_); rintro e w1 ⟨v1, ok1, rfl, h_⟩; have H1 := Aside0.mk h_; clear h_ H0)
  go_wp2_with (go_at_call 9; (with_reducible refine (spec_RemoveHorizontal_st _ _ H1.out (H1.out.readR 0 rfl) Hs.out).mono ?_); rintro e w2 ⟨v2, ok2, rfl, h_⟩; have H2 := Aside0.mk h_; clear h_ H1)
  go_wp2_with (go_at_call 10; (with_reducible refine (toIntS_st H2.out (H2.out.came C0.out hc0) (by have f_ := F.out; omega)).mono ?_); rintro e w3 ⟨v3, ok3, rfl, h_⟩; have H3 := Aside0.mk h_; clear h_ H2)
  go_wp2_with (go_at_call 11; (with_reducible refine (impl_RemoveHorizontal_st _ _ H3.out (H3.out.readR 0 rfl) Hi.out).mono ?_); rintro e w4 ⟨v4, ok4, rfl, h_⟩; have H4 := Aside0.mk h_; clear h_ H3)
  go_wp2_with (go_at_call 12; (with_reducible refine (eqIntSS_st_same H4.out (H4.out.readS 0 rfl) (H4.out.readS 2 rfl) (by have f_ := F.out; omega) (fun r h_ => by have f_ := F.out; have := bulk_mem h_; omega)).mono ?_); rintro e w5 ⟨rfl, h_⟩; have H5 := Aside0.mk h_; clear h_ H4)
  go_wp2_with (go_at_call 10; (with_reducible refine (toIntS_st H5.out (H5.out.came C0.out hc0) (by have f_ := F.out; omega)).mono ?_); rintro e w6 ⟨v6, ok6, rfl, h_⟩; have H6 := Aside0.mk h_; clear h_ H5)
  go_wp2_with (go_at_call 13; (with_reducible refine (eqIntS_st_same H6.out (H6.out.readR 2 rfl) (H6.out.readR 0 rfl) (by have f_ := F.out; omega)).mono ?_); rintro e w7 ⟨rfl, h_⟩; have H7 := Aside0.mk h_; clear h_ H6)
  go_wp2_with (go_at_call 14; (refine (markIntS_st (L' := [obR (Kd.int .i64) 3 w ok6 v6 l0, obS (Kd.slice 3 (Kd.int .i64)) 22 w ok4 v4 qr, obR (Kd.int .i64) 3 w ok3 v3 (marks 1 l0.length), obS (Kd.slice 3 (Kd.int .i64)) 22 w ok2 v2 qr, obR (Kd.int .i64) 3 w ok1 v1 l0]) H7.out 2 rfl 1 (by have f_ := F.out; omega) (by have f_ := F.out; omega) rfl).mono ?_); rintro e w8 ⟨rfl, h_⟩; have H8 := Aside0.mk h_; clear h_ H7)
  go_wp2_with (go_at_call 12; (with_reducible refine (eqIntSS_st_same H8.out (H8.out.readS 1 rfl) (H8.out.readS 3 rfl) (by have f_ := F.out; omega) (fun r h_ => by have f_ := F.out; have := bulk_mem h_; omega)).mono ?_); rintro e w9 ⟨rfl, h_⟩; have H9 := Aside0.mk h_; clear h_ H8)
  go_wp2_with (go_at_call 15; (refine (markIntSS_st (L' := [obR (Kd.int .i64) 3 w ok6 v6 l0, obS (Kd.slice 3 (Kd.int .i64)) 22 w ok4 v4 (rowMarks 1 qr), obR (Kd.int .i64) 3 w ok3 v3 (marks 1 l0.length), obS (Kd.slice 3 (Kd.int .i64)) 22 w ok2 v2 qr, obR (Kd.int .i64) 3 w ok1 v1 l0]) H9.out 1 rfl 1 (by have f_ := F.out; omega) (by have f_ := F.out; omega) (by have f_ := F.out; omega) rfl).mono ?_); rintro e w10 ⟨rfl, h_⟩; have H10 := Aside0.mk h_; clear h_ H9)
  go_wp2_with (go_at_call 16; (refine (heldIntSS_st H10.out qr 1 (H10.out.readS 1 rfl) (by have f_ := F.out; omega) (by have f_ := F.out; omega) (by have f_ := F.out; omega)).mono ?_); rintro e w11 ⟨rfl, h_⟩; have H11 := Aside0.mk h_; clear h_ H10)
  go_wp2_with (go_at_call 10; (with_reducible refine (toIntS_st H11.out (H11.out.came C0.out hc0) (by have f_ := F.out; omega)).mono ?_); rintro e w12 ⟨v12, ok12, rfl, h_⟩; have H12 := Aside0.mk h_; clear h_ H11)
  go_wp2_with (go_at_call 11; (with_reducible refine (impl_RemoveHorizontal_st _ _ H12.out (H12.out.readR 0 rfl) Hi.out).mono ?_); rintro e w13 ⟨v13, ok13, rfl, h_⟩; have H13 := Aside0.mk h_; clear h_ H12)
  go_wp2_with (go_at_call 12; (with_reducible refine (eqIntSS_st_same H13.out (H13.out.readS 0 rfl) (H13.out.readS 5 rfl) (by have f_ := F.out; omega) (fun r h_ => by have f_ := F.out; have := bulk_mem h_; omega)).mono ?_); rintro e w14 ⟨rfl, h_⟩; have H14 := Aside0.mk h_; clear h_ H13)
  go_wp2_with (go_at_call 16; (refine (heldIntSS_st H14.out qr 1 (H14.out.readS 3 rfl) (by have f_ := F.out; omega) (by have f_ := F.out; omega) (by have f_ := F.out; omega)).mono ?_); rintro e w15 ⟨rfl, h_⟩; have H15 := Aside0.mk h_; clear h_ H14)
  go_ret
  exact ⟨by simp, H15.out.below⟩
end Go.Proofs.Ytaghidcmefbjdaa.Walk
