/- The walk of the law on RibbonsAround, over what the law holds; condition: the law's pure statement, told below. -/
import Derived.Test.YtaghidcmefbjdaaQAll
import Derived.IntWalk
import Derived.Deep.RegionHeld3
set_option linter.unusedVariables false
set_option linter.unusedSimpArgs false
namespace Go.Proofs.Ytaghidcmefbjdaa.Walk
open Go.RowKit Go.Proofs.Ytaghidcmefbjdaa.F Go.Proofs.YtaghidcmefbjdaaW.PrintWords Go.Proofs.YtaghidcmefbjdaaW.PrintLast Go.Proofs.YtaghidcmefbjdaaW.PrintMore Go.Proofs.Ytaghidcmefbjdaa.Q
theorem room_st {w W : World} {L : List Ob} {v : Value} {p : List Int} {k : Int} {b : Bool} (h : St w W L) (hr : Reads (Kd.int .i64) W v p) (hl : p.length ≤ 1048576) (hb : decide (isPartition p = true ∧ 0 ≤ k ∧ k ≤ 9 - isum p) = b) :
    Calls Try.prog 44 #[v, .int .i64 k] W fun e W' => e = .returned (.bool b) ∧ St w W' L := by
  obtain ⟨A, c, rfl, hc, hC⟩ := hr
  obtain ⟨K, hK⟩ := ev_eq (spec_l19Room_ev p k hl) hb
  refine (spec_l19Room.calls K A c p k b W hC hc (hK K (Nat.le_refl _))).mono ?_
  rintro e W' ⟨rfl, hd⟩
  exact ⟨rfl, h.drawn hd⟩
theorem isRib_size {o n : List Int} (ho : isPartition o = true) (h : isum o - isum n < 1) : isRib o n = false := by
  unfold isRib
  cases hi : isInside n o with
  | false => rfl
  | true =>
    rw [(filF_nil ho hi).2 h]
    rfl
theorem added_rib_nil {p : List Int} {k : Int} (hp : isPartition p = true) (hk : k < 1) : addedBy isRib p k = [] := by
  unfold addedBy
  by_cases h : isPartition p = true ∧ 0 ≤ k ∧ k ≤ 9 - isum p
  · rw [if_pos h]
    have hs0 := isum_ge (l := p) (fun x hx => ((isPartition_bd hp).2.2 x hx).1)
    refine List.filter_eq_nil_iff.2 (fun q hq => ?_)
    have h1 := (partsOf_mem (by omega)).1 hq
    rw [isRib_size h1.1 (by omega)]
    simp
  · rw [if_neg h]
theorem isRib_acc : Acc 47 isRib := by
  intro W A0 c0 o A1 c1 i ho hi hC0 hc0 hC1 hc1
  obtain ⟨K, hK⟩ := impl_isRib_ev ho hi
  exact impl_IsRibbon.calls K A0 c0 o A1 c1 i _ W hC0 hc0 hC1 hc1 (hK K (Nat.le_refl _))
def ribOut (p : List Int) (k : Int) : List Shp := (addedBy isRib p k).map (fun q => (⟨q, p⟩ : Shp))
def impl_RibbonsAround.f (l0 : List Int) (a1 : Int) : Option (List Shp) := if l0.length ≤ 1048576 then some (ribOut l0 a1) else none
def spec_RibbonsAround.f (l0 : List Int) (a1 : Int) : Option (List Shp) := if l0.length ≤ 1048576 then some (ribOut l0 a1) else none
set_option maxHeartbeats 8000000 in
set_option maxRecDepth 100000 in
theorem impl_RibbonsAround.calls (A0 : Option Addr) (c0 : Nat) (l0 : List Int) (a1 : Int) (r : List Shp) (w : World) (hr0 : Kd.C (Kd.int .i64) w A0 l0.length l0) (hc0 : l0.length ≤ c0) (h : impl_RibbonsAround.f l0 a1 = some r) :
  Calls Try.prog 27 #[.slice A0 l0.length c0, .int .i64 a1] w fun e w' => ∃ v0_ : Value, e = .returned (v0_) ∧ Kd.S shapeKd 46 w' w.heap.size (fun _ => True) v0_ r ∧ Below w.heap.size w w' := by
  unfold impl_RibbonsAround.f at h
  by_cases hl : l0.length ≤ 1048576
  case neg => rw [if_neg hl] at h; cases h
  rw [if_pos hl] at h
  obtain rfl := Option.some.inj h
  clear h
  unfold ribOut
  have H0 := Aside0.mk (St.start w)
  have C0 := Aside0.mk hr0
  clear hr0
  have HC := Aside0.mk (fun W (hW : Kd.C (Kd.int .i64) W A0 l0.length l0) => added_calls 47 isRib (enters_of Try.func47 (by kernel_rfl) rfl) isRib_acc A0 c0 l0 a1 W hW hc0 hl)
  have hbd := addedBy_bd isRib l0 a1
  have HR9 := Aside0.mk hbd.2
  have hXl := hbd.1
  obtain ⟨X, hX⟩ : ∃ X, addedBy isRib l0 a1 = X := ⟨_, rfl⟩
  rw [hX] at HC HR9 hXl ⊢
  obtain ⟨R, hR⟩ : ∃ R, R = X.map (fun q => (⟨q, l0⟩ : Shp)) := ⟨_, rfl⟩
  rw [← hR]
  have HR := Aside0.mk hR
  clear hX hR hbd
  by_cases hpos : 0 < X.length
  case neg =>
    have hX0 : X = [] := List.eq_nil_of_length_eq_zero (by omega)
    subst hX0
    go_enter Try.func27, Try.ntmps27
    go_wp2_with (first
      | ((with_reducible refine gate_dst (N := 8) rfl ?_); refine St.lit0 shapeKd 46 (N := 8) rfl rfl ?hr H0.out ?_; (case hr => first | (go_simp; done) | (go_simp; rfl)); intro v1 w1 ok1 h_; have H1 := Aside0.mk h_; clear h_)
      | (go_at_call 45; (with_reducible refine (HC.out _ (Reads.C (H1.out.came C0.out hc0)).2).mono ?_); rintro e w2 ⟨v2, rfl, h1_, h2_⟩; obtain ⟨okx, h_⟩ := H1.out.addS h2_ h1_; obtain ⟨A2, c2, rfl, _, _⟩ := h_.readS 0 rfl; have H2 := Aside0.mk (St.drop_ h_); clear h1_ h2_ h_))
    go_loopg [5, 13] 1 (fun kq v5 v13 wr => v13 = .int .i64 0 ∧ Aside0 (St w wr [obS shapeKd 46 w ok1 v5 []]))
    case atStart => exact ⟨rfl, H2⟩
    case round =>
      obtain ⟨rfl, HS⟩ := hrel
      go_wp2
      go_ret
      refine ⟨_, rfl, ?_, HS.out.below⟩
      rw [HR.out]
      exact Kd.S_mono (HS.out.get 0 rfl) (fun _ _ => trivial)
  go_enter Try.func27, Try.ntmps27
  go_wp2_with (first
    | ((with_reducible refine gate_dst (N := 8) rfl ?_); refine St.lit0 shapeKd 46 (N := 8) rfl rfl ?hr H0.out ?_; (case hr => first | (go_simp; done) | (go_simp; rfl)); intro v1 w1 ok1 h_; have H1 := Aside0.mk h_; clear h_)
    | (go_at_call 45; (with_reducible refine (HC.out _ (Reads.C (H1.out.came C0.out hc0)).2).mono ?_); rintro e w2 ⟨v2, rfl, h1_, h2_⟩; obtain ⟨okx, h_⟩ := H1.out.addS h2_ h1_; have H2 := Aside0.mk h_; clear h1_ h2_ h_; obtain ⟨g2, c2, cur2, f2, rfl, h_⟩ := St.openT H2.out 0 rfl hpos; have H3 := Aside0.mk h_; clear h_ H2))
  go_loopg [5, 13] X.length (fun kq v5 v13 wr => ∃ (i : Nat) (ok okp : Nat → Prop), i ≤ X.length ∧ X.length - i ≤ kq ∧ v13 = .int .i64 (i : Int) ∧ Aside0 (St w wr [obT 22 w ok g2 cur2 f2 i X, obS shapeKd 46 w okp v5 ((X.take i).map (fun q => (⟨q, l0⟩ : Shp)))]))
  case atStart => exact ⟨0, okx, ok1, Nat.zero_le _, by omega, rfl, ⟨by rw [List.take_zero]; exact H3.out⟩⟩
  case round =>
    clear H0 H1 H3 HC
    obtain ⟨i, ok, okp, hi, hg, rfl, HS⟩ := hrel
    by_cases hlt : i < X.length
    · have hltz : (i : Int) < (X.length : Int) := by omega
      obtain ⟨Ar, cr, hcur, hcr⟩ := St.rowT HS.out 0 rfl i (Nat.le_refl _) hlt
      have E2 : Aside0 ((X.take (i + 1)).map (fun q => (⟨q, l0⟩ : Shp)) = (X.take i).map (fun q => (⟨q, l0⟩ : Shp)) ++ [(fun q => (⟨q, l0⟩ : Shp)) X[i]]) := ⟨by rw [List.take_succ_eq_append_getElem hlt, List.map_append, List.map_singleton]⟩
      obtain ⟨row, hrw⟩ : ∃ r, X[i] = r := ⟨_, rfl⟩
      rw [hrw] at hcur hcr E2
      have HRW := Aside0.mk hrw
      have HCU := Aside0.mk hcur
      have hx : wr.cell? ⟨g2, i, none⟩ = some (.slice Ar row.length cr) := St.cellT HS.out 0 rfl hcur
      have HLL := Aside0.mk (show ((X.take i).map (fun q => (⟨q, l0⟩ : Shp))).length ≤ 387420489 by rw [List.length_map, List.length_take]; omega)
      obtain ⟨ACC, hACC⟩ : ∃ A, A = (X.take i).map (fun q => (⟨q, l0⟩ : Shp)) := ⟨_, rfl⟩
      rw [← hACC] at E2 HLL HS
      clear hrw hcur hACC hcr
      go_wp2_with (first
        | ((with_reducible refine gate_dst (N := 19) rfl ?_); refine St.litNil (N := 19) rfl rfl ?hr HS.out ?_; (case hr => first | (go_simp; done) | (go_simp; rfl)); intro v4 w4 ok4 h_; have H4 := Aside0.mk h_; clear h_)
        | (at_builtin; refine St.putInts rfl (.tmp 19) (.tmp 20) rfl H4.out 0 rfl rfl rfl (Reads.C (H4.out.came C0.out hc0)).2 (by simp only [List.length_nil]; omega) ?_; intro v5 w5 ok5 h_; obtain ⟨A5, c5, rfl, _, _⟩ := h_.readR 0 rfl; obtain ⟨ok6, ok7, h_⟩ := St.takeT h_ 1 rfl hlt HRW.out HCU.out; replace h_ := St.perm_ h_ (List.Perm.swap _ _ _); have H6 := Aside0.mk (St.perm_ (St.perm_ h_ (List.Perm.swap _ _ _)) (List.Perm.cons _ (List.Perm.cons _ (List.Perm.swap _ _ _)))); clear h_)
        | (at_builtin; refine St.push (t := 31) (d := shapeKd) (e := 46) (cs := [.slice Ar row.length cr, .slice A5 l0.length c5]) rfl (.tmp 17) (.tmp 23) rfl und_shapes (.agg #[.slice none 0 0, .slice none 0 0]) 48 info_shape rfl (by decide) (by omega) (St.merge H6.out) rfl rfl (St.shapeM H6.out) (by have := HLL.out; omega) ?_; intro v7 w7 ok8 h_; have H7 := Aside0.mk (St.perm_ h_ (List.Perm.swap _ _ _)); clear h_))
      go_roundg (X.length - (i + 1))
      case measure => omega
      case rel => exact ⟨i + 1, ok7, ok8, by omega, by omega, by go_num, ⟨by rw [E2.out]; exact H7.out⟩⟩
    · have hi2 : i = X.length := by omega
      subst hi2
      have hltz : ¬ (X.length : Int) < (X.length : Int) := by omega
      have H7 := HS.out
      rw [List.take_length] at H7
      have HS7 := Aside0.mk H7
      clear H7 HS
      go_wp2
      go_ret
      refine ⟨_, rfl, ?_, HS7.out.below⟩
      rw [HR.out]
      exact Kd.S_mono (HS7.out.get 1 rfl) (fun _ _ => trivial)
set_option maxHeartbeats 16000000 in
set_option maxRecDepth 100000 in
theorem spec_RibbonsAround.calls (A0 : Option Addr) (c0 : Nat) (l0 : List Int) (a1 : Int) (r : List Shp) (w : World) (hr0 : Kd.C (Kd.int .i64) w A0 l0.length l0) (hc0 : l0.length ≤ c0) (h : spec_RibbonsAround.f l0 a1 = some r) :
  Calls Try.prog 26 #[.slice A0 l0.length c0, .int .i64 a1] w fun e w' => ∃ v0_ : Value, e = .returned (v0_) ∧ Kd.S shapeKd 46 w' w.heap.size (fun _ => True) v0_ r ∧ Below w.heap.size w w' := by
  unfold spec_RibbonsAround.f at h
  by_cases hl : l0.length ≤ 1048576
  case neg => rw [if_neg hl] at h; cases h
  rw [if_pos hl] at h
  obtain rfl := Option.some.inj h
  clear h
  unfold ribOut
  have H0 := Aside0.mk (St.start w)
  have C0 := Aside0.mk hr0
  clear hr0
  by_cases hb : isPartition l0 = true ∧ 0 ≤ a1 ∧ a1 ≤ 9 - isum l0
  case neg =>
    rw [show addedBy isRib l0 a1 = [] from by unfold addedBy; rw [if_neg hb]]
    have HB := Aside0.mk (decide_eq_false hb)
    clear hb
    go_enter Try.func26, Try.ntmps26
    go_wp2_with (first
      | ((with_reducible refine gate_dst (N := 8) rfl ?_); refine St.lit0 shapeKd 46 (N := 8) rfl rfl ?hr H0.out ?_; (case hr => first | (go_simp; done) | (go_simp; rfl)); intro v1 w1 ok1 h_; have H1 := Aside0.mk h_; clear h_)
      | (go_at_call 44; (with_reducible refine (room_st H1.out (H1.out.came C0.out hc0) hl HB.out).mono ?_); rintro e w2 ⟨rfl, h_⟩; have H2 := Aside0.mk h_; clear h_))
    go_ret
    exact ⟨_, rfl, Kd.S_mono (H2.out.get 0 rfl) (fun _ _ => trivial), H2.out.below⟩
  have HB := Aside0.mk (decide_eq_true hb)
  have hp := hb.1
  have HP := Aside0.mk hb.1
  have hs0 := isum_ge (l := l0) (fun x hx => ((isPartition_bd hb.1).2.2 x hx).1)
  obtain ⟨s, hs⟩ : ∃ s, isum l0 = s := ⟨_, rfl⟩
  have HS := Aside0.mk hs
  by_cases hk1 : a1 < 1
  case pos =>
    rw [added_rib_nil (p := l0) (k := a1) hp hk1]
    have hkb : decide (a1 < 1) = true := decide_eq_true hk1
    clear hk1 hp hs hb hs0
    go_enter Try.func26, Try.ntmps26
    go_wp2_with (first
      | ((with_reducible refine gate_dst (N := 8) rfl ?_); refine St.lit0 shapeKd 46 (N := 8) rfl rfl ?hr H0.out ?_; (case hr => first | (go_simp; done) | (go_simp; rfl)); intro v1 w1 ok1 h_; have H1 := Aside0.mk h_; clear h_)
      | (go_at_call 44; (with_reducible refine (room_st H1.out (H1.out.came C0.out hc0) hl HB.out).mono ?_); rintro e w2 ⟨rfl, h_⟩; have H2 := Aside0.mk h_; clear h_))
    go_ret
    exact ⟨_, rfl, Kd.S_mono (H2.out.get 0 rfl) (fun _ _ => trivial), H2.out.below⟩
  have hkb : decide (a1 < 1) = false := decide_eq_false hk1
  rw [hs] at hs0
  obtain ⟨N, hN⟩ : ∃ N : Nat, N = (s + a1).toNat := ⟨_, rfl⟩
  have h9 : a1 ≤ 9 - s := by have := hb.2.2; rw [hs] at this; exact this
  have eN : IntKind.i64.wrap (s + a1) = (N : Int) := by rw [IntWalk.i64_in _ (by omega)]; omega
  have HC := Aside0.mk (fun W (hW : Kd.C (Kd.int .i64) W A0 l0.length l0) => PickRUp_calls A0 c0 l0 W hW hc0 hp N (by omega) (by rw [hs]; omega))
  have eX : addedBy isRib l0 a1 = (partsOf N).filter (fun q => isRib q l0) := by unfold addedBy; rw [if_pos hb, hs, ← hN]
  rw [← eX] at HC
  clear hN eX hb hk1
  have hbd := addedBy_bd isRib l0 a1
  have hXl := hbd.1
  obtain ⟨X, hX⟩ : ∃ X, addedBy isRib l0 a1 = X := ⟨_, rfl⟩
  rw [hX] at HC hXl ⊢
  obtain ⟨R, hR⟩ : ∃ R, R = X.map (fun q => (⟨q, l0⟩ : Shp)) := ⟨_, rfl⟩
  rw [← hR]
  have HR := Aside0.mk hR
  clear hX hR hbd hp hs
  by_cases hpos : 0 < X.length
  case neg =>
    have hX0 : X = [] := List.eq_nil_of_length_eq_zero (by omega)
    subst hX0
    go_enter Try.func26, Try.ntmps26
    go_wp2_with (first
      | ((with_reducible refine gate_dst (N := 8) rfl ?_); refine St.lit0 shapeKd 46 (N := 8) rfl rfl ?hr H0.out ?_; (case hr => first | (go_simp; done) | (go_simp; rfl)); intro v1 w1 ok1 h_; have H1 := Aside0.mk h_; clear h_)
      | (go_at_call 44; (with_reducible refine (room_st H1.out (H1.out.came C0.out hc0) hl HB.out).mono ?_); rintro e w2 ⟨rfl, h_⟩; have H2 := Aside0.mk h_; clear h_)
      | (go_at_call 39; (with_reducible refine (l2Size_st H2.out (H2.out.came C0.out hc0) HP.out HS.out).mono ?_); rintro e w3 ⟨rfl, h_⟩; have H5 := Aside0.mk h_; clear h_)
      | (go_at_call 40; (with_reducible refine (HC.out _ (Reads.C (H5.out.came C0.out hc0)).2).mono ?_); rintro e w6 ⟨v2, rfl, h1_, h2_⟩; obtain ⟨okx, h_⟩ := H5.out.addS h2_ h1_; obtain ⟨A2, c2, rfl, _, _⟩ := h_.readS 0 rfl; have H6 := Aside0.mk (St.drop_ h_); clear h1_ h2_ h_))
    go_loopg [5, 7] 1 (fun kq v5 v7 wr => v7 = .int .i64 0 ∧ Aside0 (St w wr [obS shapeKd 46 w ok1 v5 []]))
    case atStart => exact ⟨rfl, H6⟩
    case round =>
      obtain ⟨rfl, HS⟩ := hrel
      go_wp2
      go_ret
      refine ⟨_, rfl, ?_, HS.out.below⟩
      rw [HR.out]
      exact Kd.S_mono (HS.out.get 0 rfl) (fun _ _ => trivial)
  go_enter Try.func26, Try.ntmps26
  go_wp2_with (first
    | ((with_reducible refine gate_dst (N := 8) rfl ?_); refine St.lit0 shapeKd 46 (N := 8) rfl rfl ?hr H0.out ?_; (case hr => first | (go_simp; done) | (go_simp; rfl)); intro v1 w1 ok1 h_; have H1 := Aside0.mk h_; clear h_)
    | (go_at_call 44; (with_reducible refine (room_st H1.out (H1.out.came C0.out hc0) hl HB.out).mono ?_); rintro e w2 ⟨rfl, h_⟩; have H2 := Aside0.mk h_; clear h_)
    | (go_at_call 39; (with_reducible refine (l2Size_st H2.out (H2.out.came C0.out hc0) HP.out HS.out).mono ?_); rintro e w3 ⟨rfl, h_⟩; have H5 := Aside0.mk h_; clear h_)
    | (go_at_call 40; (with_reducible refine (HC.out _ (Reads.C (H5.out.came C0.out hc0)).2).mono ?_); rintro e w6 ⟨v2, rfl, h1_, h2_⟩; obtain ⟨okx, h_⟩ := H5.out.addS h2_ h1_; have H6 := Aside0.mk h_; clear h1_ h2_ h_; obtain ⟨g2, c2, cur2, f2, rfl, h_⟩ := St.openT H6.out 0 rfl hpos; have H7 := Aside0.mk h_; clear h_ H6))
  go_loopg [5, 7] X.length (fun kq v5 v7 wr => ∃ (i : Nat) (ok okp : Nat → Prop), i ≤ X.length ∧ X.length - i ≤ kq ∧ v7 = .int .i64 (i : Int) ∧ Aside0 (St w wr [obT 22 w ok g2 cur2 f2 i X, obS shapeKd 46 w okp v5 ((X.take i).map (fun q => (⟨q, l0⟩ : Shp)))]))
  case atStart => exact ⟨0, okx, ok1, Nat.zero_le _, by omega, rfl, ⟨by rw [List.take_zero]; exact H7.out⟩⟩
  case round =>
    clear H0 H1 H7 HC
    obtain ⟨i, ok, okp, hi, hg, rfl, HS⟩ := hrel
    by_cases hlt : i < X.length
    · have hltz : (i : Int) < (X.length : Int) := by omega
      have hi0 : (0 : Int) ≤ (i : Int) := by omega
      obtain ⟨Ar, cr, hcur, hcr⟩ := St.rowT HS.out 0 rfl i (Nat.le_refl _) hlt
      have E2 : Aside0 ((X.take (i + 1)).map (fun q => (⟨q, l0⟩ : Shp)) = (X.take i).map (fun q => (⟨q, l0⟩ : Shp)) ++ [(fun q => (⟨q, l0⟩ : Shp)) X[i]]) := ⟨by rw [List.take_succ_eq_append_getElem hlt, List.map_append, List.map_singleton]⟩
      obtain ⟨row, hrw⟩ : ∃ r, X[i] = r := ⟨_, rfl⟩
      rw [hrw] at hcur hcr E2
      have HRW := Aside0.mk hrw
      have HCU := Aside0.mk hcur
      have HLL := Aside0.mk (show ((X.take i).map (fun q => (⟨q, l0⟩ : Shp))).length ≤ 387420489 by rw [List.length_map, List.length_take]; omega)
      obtain ⟨ACC, hACC⟩ : ∃ A, A = (X.take i).map (fun q => (⟨q, l0⟩ : Shp)) := ⟨_, rfl⟩
      rw [← hACC] at E2 HLL HS
      clear hrw hcur hACC hcr
      go_wp2
      have HD := Aside0.mk (HS.out.quiet (below_drew (Below.refl _ _)))
      clear HS
      go_region_held3 (fun W => W.cell? ⟨g2, i, none⟩ = some (.slice Ar row.length cr)) (first
        | exact St.cellT HD.out 0 rfl HCU.out
        | exact St.cellT (St.nilAtE HD.out (b := wr.heap.size) rfl) 1 rfl HCU.out
        | exact St.cellT H6.out 3 rfl HCU.out
        | exact St.cellT (H6.out.quiet (below_alloc (Below.refl _ _) _)) 3 rfl HCU.out
        | exact St.cellT H7.out 0 rfl HCU.out)
        (first
        | (refine St.putInts_step (by rfl) (.tmp 35) (.tmp 36) (by rfl) (St.nilAtE HD.out (b := wr.heap.size) rfl) 0 rfl (by rfl) (by rfl) (Reads.C (St.came (St.nilAtE HD.out (b := wr.heap.size) rfl) C0.out hc0)).2 (by simp only [List.length_nil]; omega) ?_; intro v9 w9 ok9 h_; obtain ⟨A5, c5, rfl, _, _⟩ := h_.readR 0 rfl; obtain ⟨ok6, ok7, h_⟩ := St.takeT h_ 1 rfl hlt HRW.out HCU.out; replace h_ := St.perm_ h_ (List.Perm.swap _ _ _); have H6 := Aside0.mk (St.perm_ (St.perm_ h_ (List.Perm.swap _ _ _)) (List.Perm.cons _ (List.Perm.cons _ (List.Perm.swap _ _ _)))); clear h_)
        | (refine St.push_step (t := 31) (d := shapeKd) (e := 46) (cs := [.slice Ar row.length cr, .slice A5 l0.length c5]) (by rfl) (.tmp 30) (.tmp 39) (by rfl) und_shapes (.agg #[.slice none 0 0, .slice none 0 0]) 48 info_shape rfl (by decide) (by omega) (St.merge H6.out) (by rfl) (by rfl) (St.shapeM H6.out) (by have := HLL.out; omega) ?_; intro v7 w7 ok8 h_; have H7 := Aside0.mk (St.perm_ h_ (List.Perm.swap _ _ _)); clear h_))
      go_wp2
      go_roundg (X.length - (i + 1))
      case measure => omega
      case rel => exact ⟨i + 1, ok7, ok8, by omega, by omega, by go_num, ⟨by rw [E2.out]; exact H7.out⟩⟩
    · have hi2 : i = X.length := by omega
      subst hi2
      have hltz : ¬ (X.length : Int) < (X.length : Int) := by omega
      have H7 := HS.out
      rw [List.take_length] at H7
      have HS7 := Aside0.mk H7
      clear H7 HS
      go_wp2
      go_ret
      refine ⟨_, rfl, ?_, HS7.out.below⟩
      rw [HR.out]
      exact Kd.S_mono (HS7.out.get 1 rfl) (fun _ _ => trivial)

theorem spec_RibbonsAround_st {w W : World} {L : List Ob} {v0 : Value} (l0 : List Int) (a1 : Int) {r : List Shp} (h : St w W L) (hr0 : Reads (Kd.int .i64) W v0 l0) (hE : spec_RibbonsAround.f l0 a1 = some r) :
    Calls Try.prog 26 #[v0, .int .i64 a1] W fun e W' => ∃ v0_ : Value, ∃ ok0, e = .returned (v0_) ∧ St w W' (obS shapeKd 46 w ok0 v0_ r :: L) := by
  obtain ⟨A0, c0, rfl, hc0, hC0⟩ := hr0
  refine (spec_RibbonsAround.calls A0 c0 l0 a1 r W hC0 hc0 hE).mono ?_
  rintro e W' ⟨v0_, rfl, o0, hb⟩
  obtain ⟨ok0, h1⟩ := h.addS hb o0
  exact ⟨v0_, ok0, rfl, h1⟩
theorem impl_RibbonsAround_st {w W : World} {L : List Ob} {v0 : Value} (l0 : List Int) (a1 : Int) {r : List Shp} (h : St w W L) (hr0 : Reads (Kd.int .i64) W v0 l0) (hE : impl_RibbonsAround.f l0 a1 = some r) :
    Calls Try.prog 27 #[v0, .int .i64 a1] W fun e W' => ∃ v0_ : Value, ∃ ok0, e = .returned (v0_) ∧ St w W' (obS shapeKd 46 w ok0 v0_ r :: L) := by
  obtain ⟨A0, c0, rfl, hc0, hC0⟩ := hr0
  refine (impl_RibbonsAround.calls A0 c0 l0 a1 r W hC0 hc0 hE).mono ?_
  rintro e W' ⟨v0_, rfl, o0, hb⟩
  obtain ⟨ok0, h1⟩ := h.addS hb o0
  exact ⟨v0_, ok0, rfl, h1⟩
/-- What the law comes to: both sides compute one value. -/
def FnExactRibbonsAround.Pure : Prop := ∀ (l0 : List Int) (a1 : Int), (l0.length ≤ maxLen) → (∀ n ∈ l0, (Lit.int .i64 n).wf = true) → ((Lit.int .i64 a1).wf = true) → (l0.length ≤ 1048576) → ∃ (qr : List Shp), spec_RibbonsAround.f l0 a1 = some qr ∧ impl_RibbonsAround.f l0 a1 = some qr ∧ qr.length ≤ 576460752303423488 ∧ shBulk qr ≤ 576460752303423488
set_option maxHeartbeats 8000000 in
set_option maxRecDepth 100000 in
theorem FnExactRibbonsAround.walk (P : FnExactRibbonsAround.Pure) (A0 : Option Addr) (c0 : Nat) (l0 : List Int) (a1 : Int) (w : World) (hr0 : Kd.C (Kd.int .i64) w A0 l0.length l0) (hc0 : l0.length ≤ c0) (m0 : l0.length ≤ maxLen) (y0 : ∀ n ∈ l0, (Lit.int .i64 n).wf = true) (y1 : (Lit.int .i64 a1).wf = true) :
    Calls Try.prog 7 #[.slice A0 l0.length c0, .int .i64 a1] w fun e w' => e = .returned (.bool true) ∧ Below w.heap.size w w' := by
  have H0 := Aside0.mk (St.start w)
  have C0 := Aside0.mk hr0
  by_cases s0 : l0.length ≤ 1048576
  case neg =>
    have b0 : decide (1048576 < (l0.length : Int)) = true := decide_eq_true (by omega)
    clear s0 hr0
    go_enter Try.func7, Try.ntmps7
    go_wp2
    go_ret
    exact ⟨by simp, H0.out.below⟩
  have b0 : decide (1048576 < (l0.length : Int)) = false := decide_eq_false (by omega)
  obtain ⟨qr, hs, hi, e0⟩ := P l0 a1 m0 y0 y1 (by omega)
  have F := Aside0.mk (And.intro (by omega : l0.length ≤ 1048576) (e0))
  have Hs := Aside0.mk hs
  have Hi := Aside0.mk hi
  clear hs hi e0 hr0 m0 y0 y1
  clear P s0
  go_enter Try.func7, Try.ntmps7
  go_wp2_with (go_at_call 10; (with_reducible refine (toIntS_st H0.out (H0.out.came C0.out hc0) (by have f_ := F.out; omega)).mono ?_); rintro e w1 ⟨v1, ok1, rfl, h_⟩; have H1 := Aside0.mk h_; clear h_ H0)
  go_wp2_with (go_at_call 26; (with_reducible refine (spec_RibbonsAround_st _ _ H1.out (H1.out.readR 0 rfl) Hs.out).mono ?_); rintro e w2 ⟨v2, ok2, rfl, h_⟩; have H2 := Aside0.mk h_; clear h_ H1)
  go_wp2_with (go_at_call 10; (with_reducible refine (toIntS_st H2.out (H2.out.came C0.out hc0) (by have f_ := F.out; omega)).mono ?_); rintro e w3 ⟨v3, ok3, rfl, h_⟩; have H3 := Aside0.mk h_; clear h_ H2)
  go_wp2_with (go_at_call 27; (with_reducible refine (impl_RibbonsAround_st _ _ H3.out (H3.out.readR 0 rfl) Hi.out).mono ?_); rintro e w4 ⟨v4, ok4, rfl, h_⟩; have H4 := Aside0.mk h_; clear h_ H3)
  go_wp2_with (go_at_call 23; (with_reducible refine (eqShapeS_st_same H4.out (H4.out.readS 0 rfl) (H4.out.readS 2 rfl) (by have f_ := F.out; omega) (by have f_ := F.out; omega)).mono ?_); rintro e w5 ⟨rfl, h_⟩; have H5 := Aside0.mk h_; clear h_ H4)
  go_wp2_with (go_at_call 10; (with_reducible refine (toIntS_st H5.out (H5.out.came C0.out hc0) (by have f_ := F.out; omega)).mono ?_); rintro e w6 ⟨v6, ok6, rfl, h_⟩; have H6 := Aside0.mk h_; clear h_ H5)
  go_wp2_with (go_at_call 13; (with_reducible refine (eqIntS_st_same H6.out (H6.out.readR 2 rfl) (H6.out.readR 0 rfl) (by have f_ := F.out; omega)).mono ?_); rintro e w7 ⟨rfl, h_⟩; have H7 := Aside0.mk h_; clear h_ H6)
  go_wp2_with (go_at_call 14; (refine (markIntS_st (L' := [obR (Kd.int .i64) 3 w ok6 v6 l0, obS shapeKd 46 w ok4 v4 qr, obR (Kd.int .i64) 3 w ok3 v3 (marks 1 l0.length), obS shapeKd 46 w ok2 v2 qr, obR (Kd.int .i64) 3 w ok1 v1 l0]) H7.out 2 rfl 1 (by have f_ := F.out; omega) (by have f_ := F.out; omega) rfl).mono ?_); rintro e w8 ⟨rfl, h_⟩; have H8 := Aside0.mk h_; clear h_ H7)
  go_wp2_with (go_at_call 23; (with_reducible refine (eqShapeS_st_same H8.out (H8.out.readS 1 rfl) (H8.out.readS 3 rfl) (by have f_ := F.out; omega) (by have f_ := F.out; omega)).mono ?_); rintro e w9 ⟨rfl, h_⟩; have H9 := Aside0.mk h_; clear h_ H8)
  go_wp2_with (go_at_call 24; (refine (markShapeS_st (L' := [obR (Kd.int .i64) 3 w ok6 v6 l0, obS shapeKd 46 w ok4 v4 (shMarks 1 qr), obR (Kd.int .i64) 3 w ok3 v3 (marks 1 l0.length), obS shapeKd 46 w ok2 v2 qr, obR (Kd.int .i64) 3 w ok1 v1 l0]) H9.out 1 rfl 1 (by have f_ := F.out; omega) (by have f_ := F.out; omega) (by have f_ := F.out; omega) rfl).mono ?_); rintro e w10 ⟨rfl, h_⟩; have H10 := Aside0.mk h_; clear h_ H9)
  go_wp2_with (go_at_call 25; (refine (heldShapeS_st H10.out qr 1 (H10.out.readS 1 rfl) (by have f_ := F.out; omega) (by have f_ := F.out; omega) (by have f_ := F.out; omega)).mono ?_); rintro e w11 ⟨rfl, h_⟩; have H11 := Aside0.mk h_; clear h_ H10)
  go_wp2_with (go_at_call 10; (with_reducible refine (toIntS_st H11.out (H11.out.came C0.out hc0) (by have f_ := F.out; omega)).mono ?_); rintro e w12 ⟨v12, ok12, rfl, h_⟩; have H12 := Aside0.mk h_; clear h_ H11)
  go_wp2_with (go_at_call 27; (with_reducible refine (impl_RibbonsAround_st _ _ H12.out (H12.out.readR 0 rfl) Hi.out).mono ?_); rintro e w13 ⟨v13, ok13, rfl, h_⟩; have H13 := Aside0.mk h_; clear h_ H12)
  go_wp2_with (go_at_call 23; (with_reducible refine (eqShapeS_st_same H13.out (H13.out.readS 0 rfl) (H13.out.readS 5 rfl) (by have f_ := F.out; omega) (by have f_ := F.out; omega)).mono ?_); rintro e w14 ⟨rfl, h_⟩; have H14 := Aside0.mk h_; clear h_ H13)
  go_wp2_with (go_at_call 25; (refine (heldShapeS_st H14.out qr 1 (H14.out.readS 3 rfl) (by have f_ := F.out; omega) (by have f_ := F.out; omega) (by have f_ := F.out; omega)).mono ?_); rintro e w15 ⟨rfl, h_⟩; have H15 := Aside0.mk h_; clear h_ H14)
  go_ret
  exact ⟨by simp, H15.out.below⟩
end Go.Proofs.Ytaghidcmefbjdaa.Walk
