/- Plain Lean: what the printed functions compute, topic by topic; conditions: those that each theorem names. -/
import Derived.Test.YthdoglkdcbghpaaDoorQAll
import Derived.Test.YthdoglkdcbghpaaDoorF0
import Derived.Test.YthdoglkdcbghpaaDoorF2
import Derived.Test.YthdoglkdcbghpaaDoorF4
import Derived.Deep.DeepCutAuto
import Derived.Deep.RegionHeld3
import Derived.IntWalk
import Derived.Test.YthdoglkdcbghpaaDoorF3
import Derived.Lib.Join
import Derived.Maps.OwnSet
import Derived.Maps.Views
import Derived.StringKeys
import Derived.Test.YthdoglkdcbghpaaDoorF7
import Derived.Test.YthdoglkdcbghpaaDoorF1
import Derived.Deep.QuietTactic
import Derived.BigQuiet
import Derived.Deep.Matrix
import Derived.Lib.SmallJoins
import Derived.ProofKit
import Derived.OpenShut
import Derived.ChangeSlices
set_option linter.unusedVariables false
set_option linter.unusedSimpArgs false
namespace Go.Proofs.YthdoglkdcbghpaaDoor.Q
open Go.RowKit Go.Proofs.YthdoglkdcbghpaaDoor.F Go.Proofs.YthdoglkdcbghpaaDoorW.PrintWords Go.Proofs.YthdoglkdcbghpaaDoorW.PrintLast Go.Proofs.YthdoglkdcbghpaaDoorW.PrintMore
theorem exchanges_ev (a b c : Int) : Ev (fun k => impl_exchanges.f k a b c) (parts3 a b c) := by
  refine ⟨1, fun k hk => ?_⟩
  obtain ⟨m, rfl⟩ : ∃ m, k = m + 1 := ⟨k - 1, by omega⟩
  have e1 : (b < a) = ¬ a ≤ b := propext (by omega)
  have e2 : (a ≤ c) = ¬ c < a := propext (by omega)
  have e3 : (b ≤ c) = ¬ c < b := propext (by omega)
  unfold impl_exchanges.f parts3
  simp only [Option.bind_some, e1, e2, e3]
  by_cases h1 : c < a <;> by_cases h2 : a ≤ b <;> by_cases h3 : c < b <;> first
    | (exfalso; omega)
    | simp [impl_exchanges.j0, h1, h2, h3, e1, e2, e3]
section
variable {w W : World} {L : List Ob} {ok okD : Nat → Prop} {ps D : List Rw} {A : Option Addr} {b c t : Nat} {r : List Int}
/-- an empty pool -/
theorem St.pool0 (h : St w W L) : St w W (obP w (fun _ => False) [] :: L) := h.add (o := obP w (fun _ => False) []) (Below.refl _ _) (fun _ hk => hk.elim) ⟨fun _ => 0, fun _ hp => by cases hp⟩ firmP
/-- a row goes into a pool -/
theorem St.intoPool (h : St w W (obR (Kd.int .i64) 3 w ok (.slice A r.length c) r :: L)) (n : Nat) (hn : L[n]? = some (obP w okD D)) (m : Nat) : ∃ ok1, St w W (L.set n (obP w ok1 (D ++ [⟨m, A, c, r⟩]))) := by
  obtain ⟨hnl, hno⟩ := List.getElem?_eq_some_iff.1 hn
  have e0 : L = L.take n ++ obP w okD D :: L.drop (n + 1) := by rw [← hno, ← List.drop_eq_getElem_cons hnl, List.take_append_drop]
  have e1 : List.Perm L (obP w okD D :: (L.take n ++ L.drop (n + 1))) := by
    have := List.perm_middle (a := obP w okD D) (l₁ := L.take n) (l₂ := L.drop (n + 1))
    rwa [← e0] at this
  obtain ⟨ok1, h1⟩ := St.pour (St.perm_ (St.pool h m) (List.Perm.cons _ e1))
  have h2 : St w W (obP w ok1 (D ++ [⟨m, A, c, r⟩]) :: (L.take n ++ L.drop (n + 1))) := St.thin h1 0 rfl (D1 := D ++ [Rw.mk m A c r]) (fun p hp => by
    rcases List.mem_append.1 hp with hp | hp
    · exact List.mem_append_right _ hp
    · exact List.mem_append_left _ hp)
  refine ⟨ok1, St.perm_ h2 ?_⟩
  rw [List.set_eq_take_append_cons_drop, if_pos hnl]
  exact (List.perm_middle (a := obP w ok1 (D ++ [⟨m, A, c, r⟩])) (l₁ := L.take n) (l₂ := L.drop (n + 1))).symm
theorem rows3_C {A1 A2 A3 : Option Addr} {k1 k2 k3 e : Nat} {y1 y2 y3 : List Int} (h1 : Reads (Kd.int .i64) W (.slice A1 y1.length k1) y1) (h2 : Reads (Kd.int .i64) W (.slice A2 y2.length k2) y2) (h3 : Reads (Kd.int .i64) W (.slice A3 y3.length k3) y3)
    (hb : W.heap[b]? = some (.cells #[.slice A1 y1.length k1, .slice A2 y2.length k2, .slice A3 y3.length k3] t (0, 0))) : Kd.C (Kd.slice e (Kd.int .i64)) W (some ⟨b, 0, none⟩) [y1, y2, y3].length [y1, y2, y3] := by
  refine ⟨rfl, (show 3 ≤ 9223372036854775807 by decide), fun _ => ⟨_, rfl, fun j p hj => ?_⟩⟩
  match j, hj with
  | 0, hj =>
    obtain rfl : y1 = p := by simpa using hj
    refine ⟨[.slice A1 y1.length k1], rfl, ⟨A1, k1, rfl, (Reads.C h1).1, (Reads.C h1).2⟩, fun i u hu => ?_⟩
    match i, hu with
    | 0, hu =>
      obtain rfl : Value.slice A1 y1.length k1 = u := by simpa using hu
      exact (blk_cell hb 0).trans rfl
  | 1, hj =>
    obtain rfl : y2 = p := by simpa using hj
    refine ⟨[.slice A2 y2.length k2], rfl, ⟨A2, k2, rfl, (Reads.C h2).1, (Reads.C h2).2⟩, fun i u hu => ?_⟩
    match i, hu with
    | 0, hu =>
      obtain rfl : Value.slice A2 y2.length k2 = u := by simpa using hu
      exact (blk_cell hb 1).trans rfl
  | 2, hj =>
    obtain rfl : y3 = p := by simpa using hj
    refine ⟨[.slice A3 y3.length k3], rfl, ⟨A3, k3, rfl, (Reads.C h3).1, (Reads.C h3).2⟩, fun i u hu => ?_⟩
    match i, hu with
    | 0, hu =>
      obtain rfl : Value.slice A3 y3.length k3 = u := by simpa using hu
      exact (blk_cell hb 2).trans rfl
theorem concat3_st {A1 A2 A3 : Option Addr} {k1 k2 k3 : Nat} {y1 y2 y3 : List Int} (h : St w W L) (h1 : Reads (Kd.int .i64) W (.slice A1 y1.length k1) y1) (h2 : Reads (Kd.int .i64) W (.slice A2 y2.length k2) y2) (h3 : Reads (Kd.int .i64) W (.slice A3 y3.length k3) y3)
    (hb : W.heap[b]? = some (.cells #[.slice A1 y1.length k1, .slice A2 y2.length k2, .slice A3 y3.length k3] t (0, 0))) (hl : y1.length + y2.length + y3.length ≤ 1048576) {r : List Int} (hr : r = y1 ++ y2 ++ y3) :
    Calls Tryd.prog 45 #[.slice (some ⟨b, 0, none⟩) 3 3] W fun e W' => ∃ A c ok1, e = .returned (.slice A r.length c) ∧ St w W' (obR (Kd.int .i64) 3 w ok1 (.slice A r.length c) r :: L) := by
  obtain ⟨K, hK⟩ := ev_eq (slices_Concat_ev [y1, y2, y3] (by simp) (by simp [bulk]; omega)) (show [y1, y2, y3].flatten = r by rw [hr]; simp)
  refine (slices_Concat_int_int.calls K (some ⟨b, 0, none⟩) 3 [y1, y2, y3] r W (rows3_C h1 h2 h3 hb) (Nat.le_refl _) (hK K (Nat.le_refl _))).mono ?_
  rintro e W' ⟨v1, rfl, hR, hB⟩
  obtain ⟨A, c, rfl, _, _⟩ := Kd.R_reads hR
  obtain ⟨ok1, h1⟩ := h.addR hB hR
  exact ⟨A, c, ok1, rfl, h1⟩
theorem isWord_st {v : Value} {x : List Int} (h : St w W L) (hr : Reads (Kd.int .i64) W v x) {q : Bool} (hq : isWord x = q) :
    Calls Tryd.prog 18 #[v] W fun e W' => e = .returned (.bool q) ∧ St w W' L := by
  obtain ⟨A, c, rfl, hc, hC⟩ := hr
  refine (impl_IsWord.calls A c x q W hC hc (by rw [impl_IsWord_eq, hq])).mono ?_
  rintro e W' ⟨rfl, hd⟩
  exact ⟨rfl, h.drawn hd⟩
theorem exchanges_st {x y z : Int} (h : St w W L) : Calls Tryd.prog 44 #[.int .i64 x, .int .i64 y, .int .i64 z] W fun e W' => ∃ v1 ok1, e = .returned v1 ∧ St w W' (obS (Kd.slice 3 (Kd.int .i64)) 22 w ok1 v1 (parts3 x y z) :: L) := by
  obtain ⟨K, hK⟩ := exchanges_ev x y z
  refine (impl_exchanges.calls K x y z _ W (hK K (Nat.le_refl _))).mono ?_
  rintro e W' ⟨v1, rfl, hS, hB⟩
  obtain ⟨ok1, h1⟩ := h.addS hB hS
  exact ⟨v1, ok1, rfl, h1⟩
end
section
variable {w W : World} {L : List Ob} {u : Value} {x : List Int}
/-- a word cut in two -/
theorem cuts_C {A : Option Addr} {N c j : Nat} (hN : N = x.length) (hc : N ≤ c) (hj : j + 2 < N) (hu : ∀ W', St w W' L → Reads (Kd.int .i64) W' (.slice A N c) x) :
    ∃ A2, (∀ W, (Instr.slice 22 (.slice A N c) none (some (.int .i64 (j : Int))) none).run Tryd.prog W = .ok (.slice A (x.take j).length c) W) ∧ (∀ W, (Instr.slice 22 (.slice A N c) (some (.int .i64 ((j + 3 : Nat) : Int))) none none).run Tryd.prog W = .ok (.slice A2 (x.drop (j + 3)).length (c - (j + 3))) W) ∧
      ∀ W', St w W' L → Reads (Kd.int .i64) W' (.slice A (x.take j).length c) (x.take j) ∧ Reads (Kd.int .i64) W' (.slice A2 (x.drop (j + 3)).length (c - (j + 3))) (x.drop (j + 3)) := by
  subst hN
  obtain ⟨i, hi, hz⟩ := Option.map_eq_some_iff.1 info3
  simp only [Prod.mk.injEq] at hz
  refine ⟨if c = j + 3 then A else A.map (·.add (j + 3)), fun W => ?_, fun W => ?_, fun W' hW => ?_⟩
  · have := (print_take_of (P := Tryd.prog) (Value.int .i64) 0 22 3 .i64 Tryd.underlying22 hi hz.2.1 A c x (j : Int) (by omega) (by omega) hc).1 W
    rwa [Int.toNat_natCast] at this
  · rw [List.length_drop]
    exact cut_ints A x.length c (j + 3) (by omega) W
  · have h := (Reads.C (hu W' hW)).2
    refine ⟨⟨A, c, rfl, by rw [List.length_take]; omega, Kd.C_take h (by omega)⟩, ⟨_, _, rfl, by rw [List.length_drop]; omega, ?_⟩⟩
    have h2 := Kd.C_drop (m := j + 3) (c := c) h (by omega) hc
    rwa [show (j + 3) * (Kd.int .i64).sz = j + 3 from Nat.mul_one _] at h2
theorem perm4 {β : Type} {a b c d : β} {L : List β} : (a :: b :: c :: d :: L).Perm (c :: d :: a :: b :: L) := (List.perm_append_comm (l₁ := [a, b]) (l₂ := [c, d])).append_right L
theorem compact_stM {okP : Nat → Prop} {ok : Nat → Prop} {ps D : List Rw} {t g c M : Nat} (hM : M = ps.length) (h : St w W (obR spK t w ok (.slice (some ⟨g, 0, none⟩) M c) ps :: obP w okP D :: L)) (hD : ∀ p ∈ ps, p ∈ D) (hl : ∀ p ∈ D, p.r.length ≤ 1048576) (hn : ps.length ≤ 1152921504606846976) (hc : ps.length ≤ c) :
    Calls Tryd.prog 46 #[.slice (some ⟨g, 0, none⟩) M c, .func (.func 47) #[] #[]] W fun e W' => ∃ qs : List Rw, e = .returned (.slice (some ⟨g, 0, none⟩) qs.length c) ∧ qs.Sublist ps ∧ qs.map Rw.r = compactW (ps.map Rw.r) ∧ St w W' (obR spK t w ok (.slice (some ⟨g, 0, none⟩) qs.length c) qs :: obP w okP D :: L) := by
  subst hM
  exact compact_st h hD hl hn hc
theorem parts3_three {a b c : Int} {p : List Int} (h : p ∈ parts3 a b c) : p.length = 3 := by
  rcases mem_parts3.1 h with ⟨_, rfl⟩ | ⟨_, rfl⟩ <;> rfl
set_option maxHeartbeats 1000000 in
set_option maxRecDepth 100000 in
theorem implWays_st (h : St w W L) (hu : ∀ W', St w W' L → Reads (Kd.int .i64) W' u x) (hw : isWord x = true) :
    Calls Tryd.prog 28 #[u] W fun e W' => ∃ v1 ok1, e = .returned v1 ∧ St w W' (obS (Kd.slice 3 (Kd.int .i64)) 22 w ok1 v1 (waysO x) :: L) := by
  obtain ⟨A, c, rfl, hc, _⟩ := hu W h
  have H0 := Aside0.mk h
  have HU := Aside0.mk hu
  have HW := Aside0.mk hw
  have hx9 : x.length ≤ 9 := (isWord_iff.1 hw).1
  obtain ⟨N, hN⟩ : ∃ N, N = x.length := ⟨_, rfl⟩
  rw [← hN] at hc hx9
  have HC : Aside0 (∀ ad, A = some ad → ∀ W', St w W' L → ∀ i, i < N → W'.cell? (ad.add i) = some (.int .i64 (rd x (i : Int)))) := ⟨fun ad ha W' hW i hi => by
    obtain ⟨A', c', e, _, hC⟩ := hu W' hW
    injection e with e1 _ _
    obtain ⟨ad', e2, h3⟩ := Kd.at_int hC (i : Int) (by omega) (by omega)
    rw [← e1, ha] at e2
    injection e2 with e2
    rw [e2]
    rwa [Int.toNat_natCast] at h3⟩
  have HA : Aside0 (0 < N → ∃ ad, A = some ad) := ⟨fun h0 => by
    obtain ⟨A', c', e, _, hC⟩ := hu W h
    injection e with e1 _ _
    obtain ⟨ad', e2, _⟩ := Kd.at_int hC 0 (by omega) (by omega)
    exact ⟨ad', e1.trans e2⟩⟩
  have HN := Aside0.mk hN
  have HCut : Aside0 (∀ j, j + 2 < N → ∃ A2, (∀ W, (Instr.slice 22 (.slice A N c) none (some (.int .i64 (j : Int))) none).run Tryd.prog W = .ok (.slice A (x.take j).length c) W) ∧ (∀ W, (Instr.slice 22 (.slice A N c) (some (.int .i64 ((j + 3 : Nat) : Int))) none none).run Tryd.prog W = .ok (.slice A2 (x.drop (j + 3)).length (c - (j + 3))) W) ∧
      ∀ W', St w W' L → Reads (Kd.int .i64) W' (.slice A (x.take j).length c) (x.take j) ∧ Reads (Kd.int .i64) W' (.slice A2 (x.drop (j + 3)).length (c - (j + 3))) (x.drop (j + 3))) := ⟨fun j hj => cuts_C hN hc hj (by rw [hN]; exact hu)⟩
  rw [← hN]
  clear h hu hN hw
  go_enter Tryd.func28, Tryd.ntmps28
  go_wp2_with (first
    | (go_at_call 18; refine (isWord_st H0.out (by rw [HN.out]; exact HU.out _ H0.out) HW.out).mono ?_; rintro e w1 ⟨rfl, h_⟩; have H1 := Aside0.mk h_; clear h_)
    | ((with_reducible refine gate_dst (N := 10) rfl ?_); refine St.nilP (N := 10) rfl rfl ?hr (St.pool0 H1.out) ?_; (case hr => first | (go_simp; done) | (go_simp; rfl)); intro g2 w2 ok2 h_; have H2 := Aside0.mk h_; clear h_))
  go_loopg [3, 4] N (fun kq v3 v4 wr => ∃ (j g c1 : Nat) (ps : List Rw) (ok okD : Nat → Prop), j ≤ N - 2 ∧ N - 2 - j ≤ kq ∧ v4 = .int .i64 ((j + 2 : Nat) : Int) ∧ v3 = .slice (some ⟨g, 0, none⟩) ps.length c1 ∧ ps.length ≤ c1 ∧ ps.length ≤ j ∧ Aside0 (ps.map Rw.r = (List.range j).flatMap (waysAt x) ∧ ps.map Rw.k = (List.range ps.length).map (· + 0)) ∧ Aside0 (St w wr (obR spK 22 w ok v3 ps :: obP w okD ps :: L)))
  case atStart => exact ⟨0, g2, 0, [], ok2, _, by omega, by omega, rfl, rfl, Nat.le_refl _, Nat.le_refl _, ⟨rfl, rfl⟩, H2⟩
  case round =>
    clear H0 H1 H2
    obtain ⟨j, g, c1, ps, ok, okD, hj, hg, rfl, rfl, hc1, hpl, HP, HS⟩ := hrel
    obtain ⟨i, hi⟩ : ∃ i, i = j + 2 := ⟨_, rfl⟩
    rw [← hi]
    by_cases hlt : i < N
    · have hz : (i : Int) < (N : Int) := by omega
      have hi0 : (0 : Int) ≤ (i : Int) := by omega
      obtain ⟨ad, rfl⟩ := HA.out (by omega)
      obtain ⟨j1, hj1⟩ : ∃ j1, j1 = j + 1 := ⟨_, rfl⟩
      obtain ⟨j3, hj3⟩ : ∃ j3, j3 = j + 3 := ⟨_, rfl⟩
      have e2 : IntKind.i64.wrap ((i : Int) - 2) = (j : Int) := by rw [IntWalk.i64_in _ (by omega)]; omega
      have e1 : IntKind.i64.wrap ((i : Int) - 1) = (j1 : Int) := by rw [IntWalk.i64_in _ (by omega)]; omega
      have e3 : IntKind.i64.wrap ((i : Int) + 1) = (j3 : Int) := by rw [IntWalk.i64_in _ (by omega)]; omega
      have hj0 : (0 : Int) ≤ (j : Int) := by omega
      have hjz : (j : Int) < (N : Int) := by omega
      have hj10 : (0 : Int) ≤ (j1 : Int) := by omega
      have hj1z : (j1 : Int) < (N : Int) := by omega
      obtain ⟨a0, ha0⟩ : ∃ a, a = rd x (j : Int) := ⟨_, rfl⟩
      obtain ⟨a1, ha1⟩ : ∃ a, a = rd x (j1 : Int) := ⟨_, rfl⟩
      obtain ⟨a2, ha2⟩ : ∃ a, a = rd x (i : Int) := ⟨_, rfl⟩
      obtain ⟨A2, hc1_, hc2_, hc3_⟩ := HCut.out j (by omega)
      rw [← hj3] at hc2_ hc3_
      obtain ⟨U, hU⟩ : ∃ U, U = x.take j := ⟨_, rfl⟩
      obtain ⟨V, hV⟩ : ∃ V, V = x.drop j3 := ⟨_, rfl⟩
      rw [← hU] at hc1_
      rw [← hV] at hc2_
      rw [← hU, ← hV] at hc3_
      have HX : Aside0 (∀ W', St w W' L → W'.cell? (ad.add j) = some (.int .i64 a0) ∧ W'.cell? (ad.add j1) = some (.int .i64 a1) ∧ W'.cell? (ad.add i) = some (.int .i64 a2)) := ⟨fun W' hW => by
        rw [ha0, ha1, ha2]
        exact ⟨HC.out ad rfl W' hW j (by omega), HC.out ad rfl W' hW j1 (by omega), HC.out ad rfl W' hW i hlt⟩⟩
      obtain ⟨P, hP⟩ : ∃ P, P = parts3 a0 a1 a2 := ⟨_, rfl⟩
      have hPl : P.length ≤ 1 := by rw [hP]; exact parts3_length _ _ _
      have HP3 : Aside0 (∀ p ∈ P, p.length = 3) := ⟨fun p hp => by rw [hP] at hp; exact parts3_three hp⟩
      have HWA : Aside0 (waysAt x j = P.map (fun p => U ++ p ++ V)) := ⟨by
        unfold waysAt
        rw [hP, ha0, ha1, ha2, hU, hV, hj3, hj1, hi]⟩
      have HUV := Aside0.mk hc3_
      have HL3 : Aside0 (U.length + 3 + V.length ≤ 9) := ⟨by rw [hU, hV, List.length_take, List.length_drop, ← HN.out]; omega⟩
      have HPP := Aside0.mk hP
      have HI := Aside0.mk hi
      have HJ3 := Aside0.mk hj3
      have HD := Aside0.mk (HS.out.quiet (below_drew (Below.refl _ _)))
      clear ha0 ha1 ha2 hc3_ hP hU hV hj1 hj3 hi
      go_wp2_with fail
      go_region_held3 (fun W => W.cell? (ad.add j) = some (.int .i64 a0) ∧ W.cell? (ad.add j1) = some (.int .i64 a1) ∧ W.cell? (ad.add i) = some (.int .i64 a2)) (first | exact HX.out _ (St.drop_ (St.drop_ HD.out)) | exact HX.out _ (St.drop_ (St.drop_ (St.drop_ (St.drop_ H4.out)))))
        (first | (go_at_call 44; refine (exchanges_st HD.out).mono ?_; rintro e w4 ⟨v4, ok4, rfl, h_⟩; rw [← HPP.out] at h_; obtain ⟨pps, ok41, ok42, hr41, _, h41⟩ := St.split h_ 0; obtain ⟨A4, c4, e4, hc4, _⟩ := St.readS0 h41 0 rfl; have hpl4 : pps.length = P.length := (by rw [← hr41, List.length_map]); rw [hpl4] at e4 hc4; subst e4; have HR4 := Aside0.mk hr41; have H4 := Aside0.mk (St.perm_ h41 perm4); clear h_ h41 hr41))
      have HS4 : Aside0 (St w w4 (obR spK 22 w ok (.slice (some ⟨g, 0, none⟩) ps.length c1) ps :: obP w okD ps :: obR spK 22 w ok41 (.slice A4 P.length c4) pps :: obP w ok42 pps :: L)) := H4
      have HPL4 := Aside0.mk hpl4
      clear HS HD H4 hpl4
      go_wp2
      go_loopg [3, 33] P.length (fun kq v3 v33 wr => ∃ (q g c1 : Nat) (qs : List Rw) (ok okD : Nat → Prop), q ≤ P.length ∧ P.length - q ≤ kq ∧ v33 = .int .i64 (q : Int) ∧ v3 = .slice (some ⟨g, 0, none⟩) qs.length c1 ∧ qs.length ≤ c1 ∧ qs.length ≤ j + q ∧ Aside0 (qs.map Rw.r = ps.map Rw.r ++ (P.take q).map (fun p => U ++ p ++ V) ∧ qs.map Rw.k = (List.range qs.length).map (· + 0)) ∧ Aside0 (St w wr (obR spK 22 w ok v3 qs :: obP w okD qs :: obR spK 22 w ok41 (.slice A4 P.length c4) pps :: obP w ok42 pps :: L)))
      case atStart => exact ⟨0, g, c1, ps, ok, okD, Nat.zero_le _, by omega, rfl, rfl, hc1, by omega, ⟨by rw [List.take_zero, List.map_nil, List.append_nil], HP.out.2⟩, HS4⟩
      case round =>
        clear HS4 hpl hc1
        obtain ⟨q, g, c1, qs, ok, okD, hq, hg, rfl, rfl, hc1, hql, HQ, HS⟩ := hrel
        by_cases hlq : q < P.length
        · have hqz : (q : Int) < (P.length : Int) := by omega
          have hq0 : (0 : Int) ≤ (q : Int) := by omega
          have hqp : q < pps.length := by rw [HPL4.out]; exact hlq
          obtain ⟨gp, cp, e4, _, _⟩ := St.spine HS.out 2 rfl (by omega)
          rw [HPL4.out] at e4
          injection e4 with e4 _ e5
          subst e4 e5
          obtain ⟨p, hp⟩ : ∃ p, pps[q] = p := ⟨_, rfl⟩
          have HPM := Aside0.mk (show p ∈ pps by rw [← hp]; exact List.getElem_mem hqp)
          have HPr : Aside0 (P[q] = p.r) := ⟨by
            have h1 : (pps.map Rw.r)[q]? = some p.r := by rw [List.getElem?_map, List.getElem?_eq_getElem hqp, hp]; rfl
            rw [HR4.out, List.getElem?_eq_getElem hlq] at h1
            exact Option.some.inj h1⟩
          have hcell := (St.cellP HS.out 2 rfl q hqp).1
          rw [hp] at hcell
          clear hp
          obtain ⟨pk, pA, pc, pr⟩ := p
          change wr.cell? ⟨gp, q, none⟩ = some (.slice pA pr.length pc) at hcell
          have HD := Aside0.mk (HS.out.quiet (below_drew (Below.refl _ _)))
          have h3 : pr.length = 3 := HP3.out pr (by have := HPr.out; rw [show pr = P[q] from this.symm]; exact List.getElem_mem hlq)
          have H3 := Aside0.mk h3
          have hb1 : (qs.length + 1) * 24 ≤ 140737488355328 := by omega
          clear h3
          have hq1 : IntKind.i64.wrap ((q : Int) + 1) = ((q + 1 : Nat) : Int) := by rw [IntWalk.i64_in _ (by omega)]; omega
          obtain ⟨rr, hrr⟩ : ∃ rr, rr = U ++ pr ++ V := ⟨_, rfl⟩
          have HRR := Aside0.mk hrr
          clear hrr
          go_upto_region 10 with (fail)
          have HUD := Aside0.mk (HUV.out _ (St.drop_ (St.drop_ (St.drop_ (St.drop_ (HD.out.quiet (below_alloc (Below.refl _ _) (.cells #[.slice (some ad) U.length c, .slice pA pr.length pc, .slice A2 V.length (c - j3)] 22))))))))
          have HPD := Aside0.mk (St.readP (HD.out.quiet (below_alloc (Below.refl _ _) (.cells #[.slice (some ad) U.length c, .slice pA pr.length pc, .slice A2 V.length (c - j3)] 22))) 3 rfl HPM.out)
          go_region_held3 (fun _ => True) (first | trivial)
            (first
            | (go_at_call 45; refine (concat3_st (r := rr) (HD.out.quiet (below_alloc (Below.refl _ _) (.cells #[.slice (some ad) U.length c, .slice pA pr.length pc, .slice A2 V.length (c - j3)] 22))) HUD.out.1 HPD.out HUD.out.2 (blk_new wr.drew _) (by have := HL3.out; rw [H3.out]; omega) HRR.out).mono ?_; rintro e w7 ⟨A7, c7, ok7, rfl, h_⟩; have H7 := Aside0.mk h_; clear h_)
            | (refine St.addP_step (by rfl) (.tmp 37) (.tmp 49) (by rfl) ⟨qs.length + 0, A7, c7, rr⟩ H7.out 1 rfl (by rfl) (by rfl) hb1 ?_; intro v8 w8 ok8 h_; have H8 := Aside0.mk h_; clear h_))
          obtain ⟨ok9, h9⟩ := St.intoPool H8.out 1 rfl (qs.length + 0)
          obtain ⟨g8, c8, e8, hc8, _⟩ := St.spine h9 0 rfl (by simp)
          subst e8
          have H9 : Aside0 (St w w8 (obR spK 22 w ok8 (.slice (some ⟨g8, 0, none⟩) (qs ++ [Rw.mk (qs.length + 0) A7 c7 rr]).length c8) (qs ++ [Rw.mk (qs.length + 0) A7 c7 rr]) :: obP w ok9 (qs ++ [Rw.mk (qs.length + 0) A7 c7 rr]) :: obR spK 22 w ok41 (.slice (some ⟨gp, 0, none⟩) P.length c4) pps :: obP w ok42 pps :: L)) := ⟨h9⟩
          have HQ2 : Aside0 ((qs ++ [Rw.mk (qs.length + 0) A7 c7 rr]).map Rw.r = ps.map Rw.r ++ (P.take (q + 1)).map (fun p => U ++ p ++ V) ∧ (qs ++ [Rw.mk (qs.length + 0) A7 c7 rr]).map Rw.k = (List.range (qs ++ [Rw.mk (qs.length + 0) A7 c7 rr]).length).map (· + 0)) := ⟨by
            constructor
            · rw [List.map_append, HQ.out.1, List.take_succ_eq_append_getElem hlq, HPr.out, List.map_append, List.append_assoc, HRR.out]; rfl
            · rw [List.map_append, HQ.out.2, List.length_append, List.length_singleton, List.range_succ, List.map_append]; rfl⟩
          have hql2 : (qs ++ [Rw.mk (qs.length + 0) A7 c7 rr]).length ≤ j + (q + 1) := by rw [List.length_append, List.length_singleton]; omega
          generalize qs ++ [Rw.mk (qs.length + 0) A7 c7 rr] = qs2 at *
          clear h9 hcell
          go_wp2
          go_roundg (P.length - (q + 1))
          case measure => omega
          case rel => exact ⟨q + 1, g8, c8, qs2, ok8, ok9, by omega, Nat.le_refl _, rfl, rfl, hc8, hql2, HQ2, H9⟩
        · have hqz : ¬ (q : Int) < (P.length : Int) := by omega
          have hqP : q = P.length := by omega
          have HQ2 : Aside0 (qs.map Rw.r = (List.range (j + 1)).flatMap (waysAt x)) := ⟨by
            rw [HQ.out.1, HP.out.1, hqP, List.take_length, ← HWA.out, List.range_succ, List.flatMap_append]
            simp⟩
          have HS2 := Aside0.mk (St.less HS.out (.cons_cons _ (.cons_cons _ (.cons _ (.cons _ (List.Sublist.refl _))))))
          clear hqP HS
          go_wp2
          go_roundg (N - 2 - (j + 1))
          case measure => have := HI.out; omega
          case rel => exact ⟨j + 1, g, c1, qs, ok, okD, by have := HI.out; omega, Nat.le_refl _, by rw [show j + 1 + 2 = j3 by rw [HJ3.out]], rfl, hc1, by omega, ⟨HQ2.out, HQ.out.2⟩, HS2⟩
    · have hz : ¬ (i : Int) < (N : Int) := by omega
      have hjN : j = x.length - 2 := by have := HN.out; omega
      have HWI : Aside0 (ps.map Rw.r = waysI x) := ⟨by rw [HP.out.1, hjN]; rfl⟩
      have HL : Aside0 (∀ p ∈ ps, p.r.length ≤ 1048576) := ⟨fun p hp => by
        have h1 : p.r ∈ waysI x := by rw [← HWI.out]; exact List.mem_map_of_mem hp
        rw [waysI_len h1, ← HN.out]; omega⟩
      have hpl9 : ps.length ≤ 9 := by omega
      clear hi hjN hg
      go_wp2_with (first
        | (go_at_call 20; refine (sort_st HS.out (fun _ h => h) HL.out (by omega)).mono ?_; rintro e w5 ⟨rfl, qs, hp, hs, h_⟩; have HLE := Aside0.mk hp.length_eq; rw [← HLE.out] at h_; have H5 := Aside0.mk h_; have HPm := Aside0.mk hp; have HSo := Aside0.mk hs; clear h_ hp hs)
        | (go_at_call 46; refine (compact_stM HLE.out H5.out (fun p hp => HPm.out.mem_iff.2 hp) HL.out (by rw [← HLE.out]; omega) (by rw [← HLE.out]; omega)).mono ?_; rintro e w6 ⟨rs, rfl, hsub, hm, h_⟩; have H6 := Aside0.mk h_; have HSub := Aside0.mk hsub; have HM := Aside0.mk hm; clear h_ hsub hm))
      go_ret
      obtain ⟨ok7, h7⟩ := St.join H6.out (fun p hp => HPm.out.mem_iff.2 (HSub.out.subset hp)) (by
        refine List.Pairwise.sublist (HSub.out.map Rw.k) ?_
        refine ((HPm.out.map Rw.k).pairwise_iff (fun h => Ne.symm h)).1 ?_
        rw [HP.out.2]
        exact marks_nodup _ _)
      refine ⟨_, ok7, rfl, ?_⟩
      have e7 : rs.map Rw.r = waysO x := by
        unfold waysO
        rw [if_pos HW.out, HM.out]
        refine ordOf_eq (compactW_ord (List.pairwise_map.2 HSo.out)) (fun z => ?_)
        rw [compactW_mem, ← HWI.out]
        exact ((HPm.out.map Rw.r).mem_iff).symm
      rw [← e7]
      exact h7
end
end Go.Proofs.YthdoglkdcbghpaaDoor.Q

set_option linter.unusedVariables false
set_option linter.unusedSimpArgs false
namespace Go.Proofs.YthdoglkdcbghpaaDoor.Q
open Go.RowKit Go.Proofs.YthdoglkdcbghpaaDoor.F Go.Proofs.YthdoglkdcbghpaaDoorW.PrintWords Go.Proofs.YthdoglkdcbghpaaDoorW.PrintLast Go.Proofs.YthdoglkdcbghpaaDoorW.PrintMore
def tx (x : List Int) : ByteArray := strOfNums (x.map (fun v => 48 + v))
theorem tx_size (x : List Int) : (tx x).size = x.length := by unfold tx; rw [strOfNums_size, List.length_map]
theorem str_append (a b : List Int) : strOfNums a ++ strOfNums b = strOfNums (a ++ b) := by
  apply ByteArray.ext
  simp [strOfNums, ByteArray.data_append]
theorem tx_append (a b : List Int) : tx a ++ tx b = tx (a ++ b) := by unfold tx; rw [str_append, List.map_append]
theorem tx_nil : (⟨#[]⟩ : ByteArray) = tx [] := rfl
def wordText (x : List Int) : ByteArray := if isWord x then (if x.length = 0 then ⟨#[45]⟩ else tx x) else ⟨#[]⟩
theorem impl_FormatInt_eq (v : Int) (h : 1 ≤ v ∧ v ≤ 9) : impl_FormatInt.f v = some (tx [v]) := by
  unfold impl_FormatInt.f
  rw [if_pos (by omega), Lib.decDigits, dif_pos (by omega)]
  have e : (48 + v).toNat = 48 + v.toNat := by omega
  simp only [tx, List.map_cons, List.map_nil, strOfNums, e]
theorem join_nosep (ls : List (List UInt8)) : Lib.join ls [] = ls.flatten := by
  cases ls with
  | nil => rfl
  | cons x r =>
    rw [Lib.join_cons, Lib.joinTail, List.flatten_cons]
    congr 2
    simp
theorem tx_join (x : List Int) : ((x.map (fun v => tx [v])).map (·.data.toList)).flatten = (tx x).data.toList := by
  induction x with
  | nil => rfl
  | cons v x ih =>
    rw [List.map_cons, List.map_cons, List.flatten_cons, ih]
    rfl
theorem impl_joined_l0 (x : List Int) (h9 : ∀ v ∈ x, 1 ≤ v ∧ v ≤ 9) (hl : x.length ≤ 9) : ∀ (d i : Nat), i + d = x.length → Ev (fun k => impl_joined.l0 k ⟨#[]⟩ ((x.take i).map (fun v => tx [v])) x (x.length : Int) (i : Int)) (tx x)
  | 0, i, hi => by
    refine Ev.step (fun k => by rw [impl_joined.l0]) ?_
    have e : impl_Join.f ((x.take i).map (fun v => tx [v])) ⟨#[]⟩ = some (tx x) := by
      unfold impl_Join.f
      rw [List.take_of_length_le (by omega), join_nosep, tx_join]
      rw [if_pos ⟨by rw [List.length_map]; omega, by
        have := tx_size x
        simp only [ByteArray.size, Array.length_toList] at this ⊢
        omega⟩]
    exact ev_neg (by omega) (ev_bindc e (ev_val rfl))
  | d + 1, i, hi => by
    have hlt : i < x.length := by omega
    have hm := h9 _ (rd_mem x i hlt)
    refine Ev.step (fun k => by rw [impl_joined.l0]) ?_
    refine ev_pos (by omega) (ev_pos (by omega) (ev_pos (by omega) (ev_bindc (impl_FormatInt_eq _ hm) (ev_pos (by rw [List.length_map, List.length_take]; omega) ?_))))
    rw [wrap_succ (by omega)]
    have := impl_joined_l0 x h9 hl d (i + 1) (by omega)
    rw [take_rd x i hlt, List.map_append, List.map_cons, List.map_nil] at this
    exact this
theorem impl_WordText_ev (x : List Int) : Ev (fun k => impl_WordText.f k x) (wordText x) := by
  unfold impl_WordText.f wordText
  refine ev_bindc (impl_IsWord_eq x) (ev_ite (fun h => ?_) (fun h => ev_val ?_))
  · rw [if_pos h]
    obtain ⟨h1, h2⟩ := isWord_iff.1 h
    refine ev_ite (fun h0 => ev_val ?_) (fun h0 => ?_)
    · rw [if_pos (by omega)]
    · rw [if_neg (by omega)]
      unfold impl_joined.f
      refine Ev.bind (r := tx x) (impl_joined_l0 x h2 h1 x.length 0 (by omega)) (ev_val rfl)
  · rw [if_neg h]
end Go.Proofs.YthdoglkdcbghpaaDoor.Q

set_option linter.unusedVariables false
set_option linter.unusedSimpArgs false
namespace Go.Proofs.YthdoglkdcbghpaaDoor.Q
open Go.RowKit Go.Proofs.YthdoglkdcbghpaaDoor.F Go.Proofs.YthdoglkdcbghpaaDoorW.PrintWords Go.Proofs.YthdoglkdcbghpaaDoorW.PrintLast Go.Proofs.YthdoglkdcbghpaaDoorW.PrintMore
theorem tx_inj {x y : List Int} (hx : ∀ v ∈ x, 1 ≤ v ∧ v ≤ 9) (hy : ∀ v ∈ y, 1 ≤ v ∧ v ≤ 9) (h : tx x = tx y) : x = y := by
  have h1 : (x.map (fun v => UInt8.ofNat (48 + v).toNat)) = (y.map (fun v => UInt8.ofNat (48 + v).toNat)) := by
    have := congrArg (fun b : ByteArray => b.data.toList) h
    simpa [tx, strOfNums, Function.comp_def] using this
  clear h
  induction x generalizing y with
  | nil => cases y with
    | nil => rfl
    | cons b y => simp at h1
  | cons a x ih => cases y with
    | nil => simp at h1
    | cons b y =>
      rw [List.map_cons, List.map_cons] at h1
      injection h1 with e1 e2
      have ha := hx a List.mem_cons_self
      have hb := hy b List.mem_cons_self
      have e3 := congrArg UInt8.toNat e1
      rw [UInt8.toNat_ofNat', UInt8.toNat_ofNat', Nat.mod_eq_of_lt (by omega), Nat.mod_eq_of_lt (by omega)] at e3
      rw [show a = b by omega, ih (fun v hv => hx v (List.mem_cons_of_mem _ hv)) (fun v hv => hy v (List.mem_cons_of_mem _ hv)) e2]
theorem wordText_inj {x y : List Int} (hx : isWord x = true) (hy : isWord y = true) (hl : x.length = y.length) (h : wordText x = wordText y) : x = y := by
  unfold wordText at h
  rw [if_pos hx, if_pos hy] at h
  by_cases h0 : x.length = 0
  · have e1 := List.length_eq_zero_iff.1 h0
    have e2 := List.length_eq_zero_iff.1 (show y.length = 0 by omega)
    rw [e1, e2]
  · rw [if_neg h0, if_neg (by omega)] at h
    exact tx_inj (isWord_iff.1 hx).2 (isWord_iff.1 hy).2 h
theorem wordText_size {x : List Int} (hx : isWord x = true) : (wordText x).size ≤ 9 := by
  have h9 := (isWord_iff.1 hx).1
  unfold wordText
  rw [if_pos hx]
  split
  · exact (show (1 : Nat) ≤ 9 by decide)
  · rw [tx_size]; exact h9
def keyW (x : List Int) : Lit := .string (wordText x).data.toList
theorem keyW_inj {x y : List Int} (hx : isWord x = true) (hy : isWord y = true) (hl : x.length = y.length) (h : keyW x = keyW y) : x = y := by
  refine wordText_inj hx hy hl ?_
  unfold keyW at h
  injection h with h
  apply ByteArray.ext
  exact Array.toList_inj.1 h
theorem keyW_key {x : List Int} (hx : isWord x = true) : keyOf Tryd.prog 9 (.string (wordText x)) = some (keyW x) := Go.WideMaps.keyOf_string_mk Tryd.underlying9 (by have := wordText_size hx; unfold maxLen; omega)
theorem lawW : Maps.Keyed Tryd.prog 9 := Maps.string_keyed Tryd.underlying9
/-- what the map tells of the words of N letters -/
def obM (b n N : Nat) (F : List Int → Option Int) : Ob := ⟨fun k => k = b, fun W => ∃ D : DataW Unit, W.ownsMap Tryd.prog 9 (plainElem Tryd.prog 3) b n D ∧ Maps.IsMap D ∧
  ∀ x, isWord x = true → x.length = N → Maps.has D (keyW x) = (F x).isSome ∧ ∀ v, F x = some v → D.atKey (keyW x) (.lit (.int .i64 0)) = .lit (.int .i64 v)⟩
theorem firmM {b n N : Nat} {F : List Int → Option Int} : Firm (obM b n N F) := fun W W' h hm => by
  obtain ⟨D, h1, h2, h3⟩ := h
  have hlt := h1.lt
  obtain ⟨es, clock, hb, g⟩ := h1
  exact ⟨D, ⟨es, clock, (hm b rfl hlt).trans hb, g⟩, h2, h3⟩
section
variable {w W : World} {L : List Ob} {b n N : Nat} {F : List Int → Option Int}
theorem St.newM (h : St w W L) (N : Nat) {b : Nat} (hb : b = W.heap.size) : St w (W.alloc (.map #[] 0)) (obM b 0 N (fun _ => none) :: L) := by
  subst hb
  have e1 : (W.alloc (.map #[] 0)).heap.size = W.heap.size + 1 := by show (W.heap.push _).size = _; exact Array.size_push ..
  refine h.add (o := obM W.heap.size 0 N (fun _ => none)) (below_alloc (Below.refl _ _) _) (fun k hk => ?_) ?_ firmM
  · have h1 : k = W.heap.size := hk
    omega
  · exact ⟨.map [], World.ownsMap_made _ _ _ _, ⟨[], rfl⟩, fun x _ _ => ⟨rfl, fun v hv => by cases hv⟩⟩
set_option maxRecDepth 100000 in
/-- v, ok := m[text] -/
theorem St.askM (h : St w W L) (i : Nat) (hi : L[i]? = some (obM b n N F)) {x : List Int} (hx : isWord x = true) (hl : x.length = N) :
    ∃ c, (Instr.lookup 36 (.map (some b)) (.string (wordText x)) true).run Tryd.prog W = .ok (.tuple #[.int .i64 c, .bool (F x).isSome]) W ∧ (Instr.lookup 36 (.map (some b)) (.string (wordText x)) false).run Tryd.prog W = .ok (.int .i64 c) W ∧ ∀ v, F x = some v → c = v := by
  obtain ⟨D, h1, h2, h3⟩ := h.get i hi
  obtain ⟨g1, g2⟩ := h3 x hx hl
  obtain ⟨c, hrun, hat, _⟩ := h1.lookup_int lawW Tryd.underlying36 Tryd.underlying3 (Tryd.zeroValue3 W) (keyW_key hx)
  obtain ⟨v, ps, hrun2, hv⟩ := h1.look_ok lawW Tryd.underlying36 (Tryd.zeroValue3 W) (plainElem_int Tryd.underlying3 (by decide)) (keyW_key hx)
  obtain ⟨c2, rfl, hc2, _⟩ := plainElem_int_inv Tryd.underlying3 hv
  have e : c2 = c := by
    have h5 := congrArg Prod.fst hc2
    rw [hat] at h5
    injection h5 with h5
    injection h5 with _ h5
    exact h5.symm
  subst e
  refine ⟨c2, by rw [← g1]; exact hrun2, hrun, fun v hv2 => ?_⟩
  have h6 := g2 v hv2
  rw [hat] at h6
  injection h6 with h6
  injection h6
set_option maxRecDepth 100000 in
/-- m[text] = v -/
theorem St.tellM (h : St w W L) (i : Nat) (hi : L[i]? = some (obM b n N F)) {x : List Int} (hx : isWord x = true) (hl : x.length = N) {v : Int} (hv : (Lit.int .i64 v).wf = true) (hn : n < maxLen) :
    ∃ W', (Instr.mapUpdate 36 (.map (some b)) (.string (wordText x)) (.int .i64 v)).run Tryd.prog W = .ok () W' ∧ St w W' (L.set i (obM b (n + 1) N (fun y => if y = x then some v else F y))) := by
  obtain ⟨D, h1, h2, h3⟩ := h.get i hi
  obtain ⟨W', hrun, h4, hg⟩ := h1.update lawW Tryd.underlying36 hn (keyW_key hx) (plainElem_int Tryd.underlying3 hv)
  have hw := (h.own _ (List.mem_of_getElem? hi)).1
  refine ⟨W', hrun, h.redo1 (o' := obM b (n + 1) N (fun y => if y = x then some v else F y)) i hi ⟨hg.size, fun k hk hne => hg.block k hk (fun e => hne (by cases e; rfl))⟩ (h.below.grown hg h.below.size (fun k hk => by cases hk; exact (hw b rfl).1)) ⟨fun k hk => ⟨.inl hk, (hw k hk).1, Nat.lt_of_lt_of_le (hw k hk).2 hg.size⟩, ⟨_, h4, h2.put _ _, fun y hy hyl => ?_⟩, firmM⟩⟩
  have hk : WideAt.IsKeyLit (keyW x) := lawW.key (keyW_key hx)
  by_cases e : y = x
  · subst e
    simp only [if_pos]
    exact ⟨Maps.has_put_same h2 hk _, fun u hu => by cases hu; exact Maps.atKey_put_same h2 hk _ _⟩
  · have hne : keyW y ≠ keyW x := fun e2 => e (keyW_inj hy hx (by omega) e2)
    simp only [if_neg e]
    rw [Maps.has_put_other hne, Maps.atKey_put_other hne]
    exact h3 y hy hyl
theorem wordText_st {v : Value} {x : List Int} (h : St w W L) (hr : Reads (Kd.int .i64) W v x) :
    Calls Tryd.prog 27 #[v] W fun e W' => e = .returned (.string (wordText x)) ∧ St w W' L := by
  obtain ⟨A, c, rfl, hc, hC⟩ := hr
  obtain ⟨K, hK⟩ := impl_WordText_ev x
  refine (impl_WordText.calls K A c x _ W hC hc (hK K (Nat.le_refl _))).mono ?_
  rintro e W' ⟨rfl, hd⟩
  exact ⟨rfl, h.quiet hd⟩
end
end Go.Proofs.YthdoglkdcbghpaaDoor.Q

set_option linter.unusedVariables false
set_option linter.unusedSimpArgs false
namespace Go.Proofs.YthdoglkdcbghpaaDoor.Q
open Go.RowKit Go.Proofs.YthdoglkdcbghpaaDoor.F Go.Proofs.YthdoglkdcbghpaaDoorW.PrintWords Go.Proofs.YthdoglkdcbghpaaDoorW.PrintLast Go.Proofs.YthdoglkdcbghpaaDoorW.PrintMore
section
variable {w W : World} {L : List Ob}
theorem clone0_st {v : Value} {xs : List Int} (h : St w W L) (hr : Reads (Kd.int .i64) W v xs) (hl : xs.length < 17592186044416) :
    Calls Tryd.prog 26 #[v] W fun e W' => ∃ A c ok1, e = .returned (.slice A xs.length c) ∧ St w W' (obR (Kd.int .i64) 3 w ok1 (.slice A xs.length c) xs :: L) := by
  obtain ⟨A, c, rfl, hc, hC⟩ := hr
  refine (slices_Clone_int_int.calls A c xs xs W hC hc (by unfold slices_Clone_int_int.f; rw [if_pos hl])).mono ?_
  rintro e W' ⟨v1, rfl, hR, hB⟩
  obtain ⟨A2, c2, rfl, _, _⟩ := Kd.R_reads hR
  obtain ⟨ok1, h1⟩ := h.addR hB hR
  exact ⟨A2, c2, ok1, rfl, h1⟩
end
section
variable {w W : World} {L : List Ob} {u : Value} {x : List Int}
set_option maxHeartbeats 1000000 in
set_option maxRecDepth 100000 in
theorem distances_st (h : St w W L) (hu : ∀ W', St w W' L → Reads (Kd.int .i64) W' u x) (hw : isWord x = true) (h7 : x.length ≤ 9) :
    Calls Tryd.prog 19 #[u] W fun e W' => ∃ (g c b : Nat) (ok okD : Nat → Prop) (ps : List Rw), e = .returned (.tuple #[.slice (some ⟨g, 0, none⟩) ps.length c, .map (some b)]) ∧ ps.map Rw.r = (reachW x).1 ∧ (ps.map Rw.k).Nodup ∧ ps.length ≤ c ∧
      St w W' (obR spK 22 w ok (.slice (some ⟨g, 0, none⟩) ps.length c) ps :: obP w okD ps :: obM b ps.length x.length (farOf (reachW x)) :: L) := by
  obtain ⟨A, c, rfl, hc, _⟩ := hu W h
  have H0 := Aside0.mk h
  have HU := Aside0.mk hu
  have HW := Aside0.mk hw
  obtain ⟨N, hN⟩ : ∃ N, N = x.length := ⟨_, rfl⟩
  rw [← hN] at hc h7
  have HN := Aside0.mk hN
  have hmm := @run_makeMap Tryd.prog
  rw [← hN]
  clear h hu hN hw
  go_enter Tryd.func19, Tryd.ntmps19
  go_wp2_with (first
    | (go_at_call 26; refine (clone0_st H0.out (by rw [HN.out]; exact HU.out _ H0.out) (by rw [← HN.out]; omega)).mono ?_; rintro e w1 ⟨A1, c1, ok1, rfl, h_⟩; rw [← HN.out] at h_ ⊢; have H1 := Aside0.mk h_; clear h_)
    | ((with_reducible refine gate_dst (N := 13) rfl ?_); refine St.oneP (N := 13) ⟨0, A1, c1, x⟩ rfl rfl ?hr H1.out ?_; (case hr => (unfold Rw.v; rw [← HN.out]; first | (go_simp; done) | (go_simp; rfl))); intro g2 w2 ok2 h_; have H2 := Aside0.mk h_; clear h_)
    | (go_at_call 27; refine (wordText_st (St.newM H2.out N (b := w2.heap.size) rfl) (by rw [HN.out]; exact HU.out _ (St.drop_ (St.drop_ (St.drop_ (St.newM H2.out N (b := w2.heap.size) rfl)))))).mono ?_; rintro e w3 ⟨rfl, h_⟩; obtain ⟨w4, hr4, h4_⟩ := St.tellM h_ 0 rfl HW.out HN.out.symm (v := 0) (by decide) (by unfold maxLen; omega); have H4 := Aside0.mk h4_; clear h_ h4_))
  have HI : Aside0 (∃ ok okD, St w w4 (obR spK 22 w ok (.slice (some ⟨g2, 0, none⟩) 1 1) [⟨0, A1, c1, x⟩] :: obP w okD [⟨0, A1, c1, x⟩] :: obM w2.heap.size 1 N (farOf (bfs waysO x 0)) :: L)) := ⟨by
    have h5 : St w w4 (obM w2.heap.size (0 + 1) N (fun y => if y = x then some 0 else none) :: obR spK 22 w ok2 (.slice (some ⟨g2, 0, none⟩) 1 1) [⟨0, A1, c1, x⟩] :: obR (Kd.int .i64) 3 w ok1 (.slice A1 x.length c1) x :: L) := by rw [← HN.out]; exact H4.out
    have e : (fun y => if y = x then some (0 : Int) else none) = farOf (bfs waysO x 0) := by
      funext y
      show _ = farOf ([x], [0]) y
      have h6 := farOf_snoc (s := ([], [])) rfl (x := x) (by simp) 0 y
      rw [show (([], []) : List (List Int) × List Int).1 ++ [x] = [x] from rfl, show (([], []) : List (List Int) × List Int).2 ++ [0] = [0] from rfl] at h6
      rw [h6]
      rfl
    rw [e] at h5
    exact ⟨_, _, St.perm_ (St.pool (St.perm_ h5 perm3) 0) perm3⟩⟩
  obtain ⟨okA, okB, h_⟩ := HI.out
  have HS0 := Aside0.mk h_
  clear h_ HI H0 H1 H2 H4 hr4
  go_loopg [4, 6] 362881 (fun kq v4 v6 wr => ∃ (i g c1 M : Nat) (ps : List Rw) (ok okD : Nat → Prop), i ≤ 362880 ∧ 362881 - i ≤ kq ∧ v6 = .int .i64 (i : Int) ∧ v4 = .slice (some ⟨g, 0, none⟩) ps.length c1 ∧ ps.length ≤ c1 ∧ ps.length ≤ 362880 ∧ i ≤ ps.length ∧ Aside0 (ps.map Rw.r = (bfs waysO x i).1 ∧ (ps.map Rw.k).Nodup ∧ ∀ p ∈ ps, p.k < M) ∧ Aside0 (St w wr (obR spK 22 w ok v4 ps :: obP w okD ps :: obM w2.heap.size ps.length N (farOf (bfs waysO x i)) :: L)))
  case atStart => exact ⟨0, g2, 1, 1, [⟨0, A1, c1, x⟩], okA, okB, by omega, by omega, rfl, rfl, by simp, by simp, by omega, ⟨rfl, by simp, fun p hp => by rw [List.mem_singleton.1 hp]; exact Nat.zero_lt_one⟩, HS0⟩
  case round =>
    clear HS0
    obtain ⟨i, g, c1, M, ps, ok, okD, hi, hg, rfl, rfl, hc1, hpl, hip, HP, HS⟩ := hrel
    by_cases hlt : i < ps.length
    · have hz : (i : Int) < (ps.length : Int) := by omega
      have hi0 : (0 : Int) ≤ (i : Int) := by omega
      have hlb : i < (bfs waysO x i).1.length := by rw [← HP.out.1, List.length_map]; exact hlt
      obtain ⟨y, hy⟩ : ∃ y, y = (bfs waysO x i).1.getD i [] := ⟨_, rfl⟩
      have hye : (bfs waysO x i).1[i]? = some y := by rw [hy, List.getD_eq_getElem?_getD, List.getElem?_eq_getElem hlb]; rfl
      have hyp : y.Perm x := bfs_perm x i _ (List.mem_of_getElem? hye)
      have HYW : Aside0 (isWord y = true) := ⟨isWord_perm hyp HW.out⟩
      have HYN : Aside0 (y.length = N) := ⟨by rw [hyp.length_eq, HN.out]⟩
      obtain ⟨p, hp⟩ : ∃ p, ps[i] = p := ⟨_, rfl⟩
      have hpm : p ∈ ps := by rw [← hp]; exact List.getElem_mem hlt
      have hpr : p.r = y := by
        have h1 : (ps.map Rw.r)[i]? = some p.r := by rw [List.getElem?_map, List.getElem?_eq_getElem hlt, hp]; rfl
        rw [HP.out.1, hye] at h1
        exact (Option.some.inj h1).symm
      have hx := (St.cellP HS.out 0 rfl i hlt).1
      rw [hp] at hx
      obtain ⟨pk, pA, pc, pr⟩ := p
      obtain rfl : pr = y := hpr
      change wr.cell? ⟨g, i, none⟩ = some (.slice pA pr.length pc) at hx
      obtain ⟨ns, hns⟩ : ∃ ns, ns = waysO pr := ⟨_, rfl⟩
      obtain ⟨d0, hd0⟩ : ∃ d, d = (bfs waysO x i).2.getD i 0 := ⟨_, rfl⟩
      obtain ⟨d1, hd1⟩ : ∃ d, d = d0 + 1 := ⟨_, rfl⟩
      have hdb := midW_d hlb
      rw [← hd0] at hdb
      have ew : IntKind.i64.wrap (d0 + 1) = d1 := by rw [IntWalk.i64_in _ (by omega)]; exact hd1.symm
      have HWF : Aside0 ((Lit.int .i64 d1).wf = true) := ⟨WalkArith.wf_i64 (by omega)⟩
      have hnsb : ns.length ≤ 9 := by rw [hns]; exact (waysO_bd pr).1
      have HPM := Aside0.mk hpm
      have HPI := Aside0.mk (show ps[i]? = some ⟨pk, pA, pc, pr⟩ by rw [List.getElem?_eq_getElem hlt, hp])
      have HNS := Aside0.mk hns
      have HLB := Aside0.mk hlb
      have HY := Aside0.mk hy
      have HD0 := Aside0.mk hd0
      have HD1 := Aside0.mk hd1
      have hiw : IntKind.i64.wrap ((i : Int) + 1) = ((i + 1 : Nat) : Int) := by rw [IntWalk.i64_in _ (by omega)]; omega
      clear hp hye hyp hns hy hd0 hd1 hdb hlb hpm
      go_wp2_with (first
        | (go_at_call 28; refine (implWays_st HS.out (fun W' hW => St.readP hW 1 rfl HPM.out) HYW.out).mono ?_; rintro e w5 ⟨v5, ok5, rfl, h_⟩; rw [← HNS.out] at h_; obtain ⟨nps, okn, oknp, hr5, hk5, h5⟩ := St.split h_ M; obtain ⟨A5, c5, e5, hc5, _⟩ := St.readS0 h5 0 rfl; have HNL : Aside0 (nps.length = ns.length) := ⟨by rw [← hr5, List.length_map]⟩; rw [HNL.out] at e5 hc5; subst e5; have HR5 := Aside0.mk hr5; have HK5 := Aside0.mk hk5; obtain ⟨okq, h6⟩ := St.pour (St.perm_ h5 perm5); have H6 := Aside0.mk h6; clear h_ h5 h6 hr5 hk5))
      clear HS hx
      go_loopg [4, 30] ns.length (fun kq v4 v30 wr => ∃ (q g c1 : Nat) (qs : List Rw) (ok : Nat → Prop), q ≤ ns.length ∧ ns.length - q ≤ kq ∧ v30 = .int .i64 (q : Int) ∧ v4 = .slice (some ⟨g, 0, none⟩) qs.length c1 ∧ qs.length ≤ c1 ∧ qs.length ≤ 362880 ∧ ps.length ≤ qs.length ∧ Aside0 (qs.map Rw.r = (midW x i q).1 ∧ (qs.map Rw.k).Nodup ∧ (∀ p ∈ qs, p ∈ ps ∨ ∃ j, j < q ∧ nps[j]? = some p) ∧ ∀ j (h : j < ps.length), qs[j]? = ps[j]?) ∧ Aside0 (St w wr (obP w okq (nps ++ ps) :: obR spK 22 w ok v4 qs :: obM w2.heap.size qs.length N (farOf (midW x i q)) :: obR spK 22 w okn (.slice A5 ns.length c5) nps :: L)))
      case atStart => exact ⟨0, g, c1, ps, ok, Nat.zero_le _, by omega, rfl, rfl, hc1, hpl, Nat.le_refl _, ⟨by rw [midW_zero]; exact HP.out.1, HP.out.2.1, fun p hp => .inl hp, fun _ _ => rfl⟩, ⟨by rw [midW_zero]; exact H6.out⟩⟩
      case round =>
        clear H6 hc1 hpl
        obtain ⟨q, g, c1, qs, ok, hq, hg, rfl, rfl, hc1, hql, hqp, HQ, HS⟩ := hrel
        by_cases hlq : q < ns.length
        · have hqz : (q : Int) < (ns.length : Int) := by omega
          have hq0 : (0 : Int) ≤ (q : Int) := by omega
          have hqn : q < nps.length := by rw [HNL.out]; exact hlq
          obtain ⟨gn, cn, e5, _, _⟩ := St.spine HS.out 3 rfl (by omega)
          rw [HNL.out] at e5
          injection e5 with e5 _ e6
          subst e5 e6
          obtain ⟨z, hz⟩ : ∃ z, nps[q] = z := ⟨_, rfl⟩
          have hcell := (St.cellP HS.out 3 rfl q hqn).1
          rw [hz] at hcell
          have HZM := Aside0.mk (show z ∈ nps ++ ps by rw [← hz]; exact List.mem_append_left _ (List.getElem_mem hqn))
          have HZK : Aside0 (z.k = q + M) := ⟨by
            have h1 : (nps.map Rw.k)[q]? = some z.k := by rw [List.getElem?_map, List.getElem?_eq_getElem hqn, hz]; rfl
            rw [HK5.out, List.getElem?_map, List.getElem?_eq_getElem (by simpa using hlq), List.getElem_range] at h1
            exact (Option.some.inj h1).symm⟩
          have hzr : ns[q]? = some z.r := by
            have h1 : (nps.map Rw.r)[q]? = some z.r := by rw [List.getElem?_map, List.getElem?_eq_getElem hqn, hz]; rfl
            rwa [HR5.out] at h1
          have hzp : z.r.Perm pr := waysO_perm (by rw [← HNS.out]; exact List.mem_of_getElem? hzr)
          have HZW : Aside0 (isWord z.r = true) := ⟨isWord_perm hzp HYW.out⟩
          have HZN : Aside0 (z.r.length = N) := ⟨by rw [hzp.length_eq]; exact HYN.out⟩
          have HMS : Aside0 (midW x i (q + 1) = seen d1 (midW x i q) z.r) := ⟨by
            rw [HD1.out, HD0.out]
            exact midW_succ (by rw [← HY.out, ← HNS.out]; exact hzr)⟩
          have HZP := Aside0.mk (show nps[q]? = some z by rw [List.getElem?_eq_getElem hqn, hz])
          clear hz hzr hzp
          obtain ⟨zk, zA, zc, zr⟩ := z
          change wr.cell? ⟨gn, q, none⟩ = some (.slice zA zr.length zc) at hcell
          by_cases hm : zr ∈ (midW x i q).1
          · have HM := Aside0.mk hm
            clear hm
            go_wp2_with (first
              | (go_at_call 27; refine (wordText_st HS.out (St.readP HS.out 0 rfl HZM.out)).mono ?_; rintro e w7 ⟨rfl, h_⟩; obtain ⟨c7, hr7, _, _⟩ := St.askM h_ 2 rfl HZW.out HZN.out; rw [farOf_some, decide_eq_true HM.out] at hr7; have H7 := Aside0.mk h_; clear h_))
            go_roundg (ns.length - (q + 1))
            case measure => omega
            case rel => exact ⟨q + 1, g, c1, qs, ok, by omega, Nat.le_refl _, by go_num, rfl, hc1, hql, hqp, ⟨by rw [HMS.out, seen_old HM.out]; exact HQ.out.1, HQ.out.2.1, fun p hp => (HQ.out.2.2.1 p hp).imp id (fun ⟨j, hj, h⟩ => ⟨j, by omega, h⟩), HQ.out.2.2.2⟩, ⟨by rw [HMS.out, seen_old HM.out]; exact H7.out⟩⟩
          · have HM := Aside0.mk hm
            clear hm
            have hqi : i < qs.length := by omega
            have hqe : qs[i]? = some ⟨pk, pA, pc, pr⟩ := by rw [HQ.out.2.2.2 i hlt]; exact HPI.out
            have hqg : qs[i] = ⟨pk, pA, pc, pr⟩ := by rw [List.getElem?_eq_getElem hqi] at hqe; exact Option.some.inj hqe
            have HX : Aside0 (∀ W' okx F n, St w W' (obP w okq (nps ++ ps) :: obR spK 22 w okx (.slice (some ⟨g, 0, none⟩) qs.length c1) qs :: obM w2.heap.size n N F :: obR spK 22 w okn (.slice (some ⟨gn, 0, none⟩) ns.length c5) nps :: L) → W'.cell? ⟨g, i, none⟩ = some (.slice pA pr.length pc)) := ⟨fun W' okx F n hW => by
              have h1 := (St.cellP hW 1 rfl i hqi).1
              rw [hqg] at h1
              exact h1⟩
            have HRZ : Aside0 (∀ W' okx F n, St w W' (obP w okq (nps ++ ps) :: obR spK 22 w okx (.slice (some ⟨g, 0, none⟩) qs.length c1) qs :: obM w2.heap.size n N F :: obR spK 22 w okn (.slice (some ⟨gn, 0, none⟩) ns.length c5) nps :: L) → Reads (Kd.int .i64) W' (.slice zA zr.length zc) zr) := ⟨fun W' okx F n hW => St.readP hW 0 rfl HZM.out⟩
            have HRY : Aside0 (∀ W' okx F n, St w W' (obP w okq (nps ++ ps) :: obR spK 22 w okx (.slice (some ⟨g, 0, none⟩) qs.length c1) qs :: obM w2.heap.size n N F :: obR spK 22 w okn (.slice (some ⟨gn, 0, none⟩) ns.length c5) nps :: L) → Reads (Kd.int .i64) W' (.slice pA pr.length pc) pr) := ⟨fun W' okx F n hW => St.readP hW 0 rfl (List.mem_append_right _ HPM.out)⟩
            have HFY : Aside0 (farOf (midW x i q) pr = some d0) := ⟨by
              have h1 := midW_at (q := q) HLB.out
              rw [← HY.out] at h1
              rw [farOf_at midW_ok.2 h1.1, h1.2, HD0.out]⟩
            have hqm : qs.length < maxLen := by unfold maxLen; omega
            have HQM := Aside0.mk hqm
            have hb1 : (qs.length + 1) * 24 ≤ 140737488355328 := by omega
            clear hqe hqg hqm
            go_upto_region 10 with (first
              | (go_at_call 27; refine (wordText_st HS.out (St.readP HS.out 0 rfl HZM.out)).mono ?_; rintro e w7 ⟨rfl, h_⟩; obtain ⟨c7, hr7, _, _⟩ := St.askM h_ 2 rfl HZW.out HZN.out; rw [farOf_some, decide_eq_false HM.out] at hr7; have HD7 := Aside0.mk (h_.quiet (below_drew (Below.refl _ _))); clear h_))
            go_loud (go_region_held3 (fun W => W.cell? ⟨g, i, none⟩ = some (.slice pA pr.length pc)) (first | exact HX.out _ _ _ _ HD7.out | exact HX.out _ _ _ _ H8.out | exact HX.out _ _ _ _ H9.out | exact HX.out _ _ _ _ H10.out)
              (first
              | (go_at_call 27; (with_reducible refine (wordText_st HD7.out (HRZ.out _ _ _ _ HD7.out)).mono ?_); rintro e w8 ⟨rfl, h_⟩; have H8 := Aside0.mk h_; clear h_)
              | (go_at_call 27; (with_reducible refine (wordText_st H8.out (HRY.out _ _ _ _ H8.out)).mono ?_); rintro e w9 ⟨rfl, h_⟩; obtain ⟨c9, _, hr9, hc9⟩ := St.askM h_ 2 rfl HYW.out HYN.out; rw [hc9 _ HFY.out] at hr9; obtain ⟨w10, hr10, h10_⟩ := St.tellM h_ 2 rfl HZW.out HZN.out HWF.out HQM.out; have H9 := Aside0.mk h_; have H10 := Aside0.mk h10_; clear h_ h10_ hc9)))
            have HF2 : Aside0 ((fun y => if y = zr then some d1 else farOf (midW x i q) y) = farOf (midW x i (q + 1))) := ⟨by
              rw [HMS.out, seen_new HM.out]
              funext y
              exact (farOf_snoc midW_ok.1 HM.out d1 y).symm⟩
            have H11 : Aside0 (St w w10 (obP w okq (nps ++ ps) :: obR spK 22 w ok (.slice (some ⟨g, 0, none⟩) qs.length c1) qs :: obM w2.heap.size (qs.length + 1) N (farOf (midW x i (q + 1))) :: obR spK 22 w okn (.slice (some ⟨gn, 0, none⟩) ns.length c5) nps :: L)) := ⟨by rw [← HF2.out]; exact H10.out⟩
            have HQ2 : Aside0 ((qs ++ [Rw.mk zk zA zc zr]).map Rw.r = (midW x i (q + 1)).1 ∧ ((qs ++ [Rw.mk zk zA zc zr]).map Rw.k).Nodup ∧ (∀ p ∈ qs ++ [Rw.mk zk zA zc zr], p ∈ ps ∨ ∃ j, j < q + 1 ∧ nps[j]? = some p) ∧ ∀ j (h : j < ps.length), (qs ++ [Rw.mk zk zA zc zr])[j]? = ps[j]?) := ⟨by
              refine ⟨?_, ?_, fun p hp => ?_, fun j hj => ?_⟩
              · rw [HMS.out, seen_new HM.out, List.map_append, HQ.out.1]; rfl
              · rw [List.map_append]
                refine List.nodup_append.2 ⟨HQ.out.2.1, by simp, fun a ha b hb e => ?_⟩
                obtain ⟨p, hp, rfl⟩ := List.mem_map.1 ha
                have hb2 : b = zk := by simpa using hb
                have hk2 : zk = q + M := HZK.out
                rcases HQ.out.2.2.1 p hp with h1 | ⟨j, hj, h1⟩
                · have := HP.out.2.2 p h1; omega
                · have h2 : (nps.map Rw.k)[j]? = some p.k := by rw [List.getElem?_map, h1]; rfl
                  rw [HK5.out, List.getElem?_map] at h2
                  obtain ⟨m, h3, h4⟩ := Option.map_eq_some_iff.1 h2
                  obtain ⟨h5, h6⟩ := List.getElem?_eq_some_iff.1 h3
                  rw [List.getElem_range] at h6
                  omega
              · rcases List.mem_append.1 hp with hp | hp
                · exact (HQ.out.2.2.1 p hp).imp id (fun ⟨j, hj, h⟩ => ⟨j, by omega, h⟩)
                · rw [List.mem_singleton.1 hp]; exact .inr ⟨q, by omega, HZP.out⟩
              · rw [List.getElem?_append_left (by omega)]; exact HQ.out.2.2.2 j hj⟩
            have HL2 : Aside0 ((qs ++ [Rw.mk zk zA zc zr]).length = qs.length + 1) := ⟨by simp⟩
            have hql2 : (qs ++ [Rw.mk zk zA zc zr]).length ≤ 362880 := by
              have := midW_few (q := q + 1) (by rw [← HN.out]; exact h7) HLB.out
              rw [← HQ2.out.1, List.length_map] at this
              exact this
            clear hr7 hr9 hr10 HD7 H8 H9 H10 HF2
            go_wp2_with (first
              | (at_builtin; refine St.addP rfl (.tmp 54) (.tmp 56) rfl ⟨zk, zA, zc, zr⟩ H11.out 1 rfl rfl rfl hb1 ?_; intro v12 w12 ok12 h_; obtain ⟨g12, c12, e12, hc12, _⟩ := St.spine h_ 1 rfl (by simp); subst e12; have H12 : Aside0 (St w w12 (obP w okq (nps ++ ps) :: obR spK 22 w ok12 (.slice (some ⟨g12, 0, none⟩) (qs ++ [Rw.mk zk zA zc zr]).length c12) (qs ++ [Rw.mk zk zA zc zr]) :: obM w2.heap.size (qs ++ [Rw.mk zk zA zc zr]).length N (farOf (midW x i (q + 1))) :: obR spK 22 w okn (.slice (some ⟨gn, 0, none⟩) ns.length c5) nps :: L)) := (⟨by have h9 := h_; rw [← HL2.out] at h9; exact h9⟩); clear h_; generalize qs ++ [Rw.mk zk zA zc zr] = qs2 at *))
            go_roundg (ns.length - (q + 1))
            case measure => omega
            case rel => exact ⟨q + 1, g12, c12, qs2, ok12, by omega, Nat.le_refl _, by go_num, rfl, hc12, hql2, by have := HL2.out; omega, HQ2, H12⟩
        · have hqz : ¬ (q : Int) < (ns.length : Int) := by omega
          have HME : Aside0 (midW x i q = bfs waysO x (i + 1)) := ⟨midW_end HLB.out (by rw [← HY.out, ← HNS.out]; omega)⟩
          have HQ2 : Aside0 (qs.map Rw.r = (bfs waysO x (i + 1)).1 ∧ (qs.map Rw.k).Nodup ∧ ∀ p ∈ qs, p.k < M + ns.length) := ⟨by rw [← HME.out]; exact HQ.out.1, HQ.out.2.1, fun p hp => by
            rcases HQ.out.2.2.1 p hp with h1 | ⟨j, hj, h1⟩
            · have := HP.out.2.2 p h1; omega
            · have h2 : (nps.map Rw.k)[j]? = some p.k := by rw [List.getElem?_map, h1]; rfl
              rw [HK5.out, List.getElem?_map] at h2
              obtain ⟨m, h3, h4⟩ := Option.map_eq_some_iff.1 h2
              obtain ⟨h5, h6⟩ := List.getElem?_eq_some_iff.1 h3
              rw [List.getElem_range] at h6
              rw [List.length_range] at h5
              omega⟩
          have HS2 := Aside0.mk (St.thin HS.out 0 rfl (D1 := qs) (fun p hp => by
            rcases HQ.out.2.2.1 p hp with h1 | ⟨j, hj, h1⟩
            · exact List.mem_append_right _ h1
            · exact List.mem_append_left _ (List.mem_of_getElem? h1)))
          have HS3 : Aside0 (St w wr (obR spK 22 w ok (.slice (some ⟨g, 0, none⟩) qs.length c1) qs :: obP w okq qs :: obM w2.heap.size qs.length N (farOf (bfs waysO x (i + 1))) :: L)) := ⟨by
            rw [← HME.out]
            exact St.less (St.perm_ HS2.out (List.Perm.swap _ _ _)) (.cons_cons _ (.cons_cons _ (.cons_cons _ (.cons _ (List.Sublist.refl _)))))⟩
          clear HS HS2
          go_wp2
          go_roundg (362881 - (i + 1))
          case measure => omega
          case rel => exact ⟨i + 1, g, c1, M + ns.length, qs, ok, okq, by omega, Nat.le_refl _, rfl, rfl, hc1, hql, by omega, HQ2, HS3⟩
    · have hz : ¬ (i : Int) < (ps.length : Int) := by omega
      have HE : Aside0 (bfs waysO x i = reachW x) := ⟨reachW_eq hi (by rw [← HP.out.1, List.length_map]; omega)⟩
      go_wp2
      go_ret2
      exact ⟨g, c1, w2.heap.size, ok, okD, ps, by simp, by rw [← HE.out]; exact HP.out.1, HP.out.2.1, hc1, by rw [← HE.out]; exact HS.out⟩
end
end Go.Proofs.YthdoglkdcbghpaaDoor.Q

set_option linter.unusedVariables false
set_option linter.unusedSimpArgs false
namespace Go.Proofs.YthdoglkdcbghpaaDoor.Q
open Go.RowKit Go.Proofs.YthdoglkdcbghpaaDoor.F Go.Proofs.YthdoglkdcbghpaaDoorW.PrintWords Go.Proofs.YthdoglkdcbghpaaDoorW.PrintLast Go.Proofs.YthdoglkdcbghpaaDoorW.PrintMore
section
variable {w W : World} {L : List Ob} {u u2 : Value} {x s : List Int}
theorem areEq_st {v v2 : Value} (h : St w W L) (hr : Reads (Kd.int .i64) W v x) (hr2 : Reads (Kd.int .i64) W v2 s) {q : Bool} (hq : areEq x s = q) :
    Calls Tryd.prog 25 #[v, v2] W fun e W' => e = .returned (.bool q) ∧ St w W' L := by
  obtain ⟨A, c, rfl, hc, hC⟩ := hr
  obtain ⟨A2, c2, rfl, hc2, hC2⟩ := hr2
  obtain ⟨K, hK⟩ := ev_eq (impl_AreEquivalent_ev x s) hq
  refine (impl_AreEquivalent.calls K A c x A2 c2 s q W hC hc hC2 hc2 (hK K (Nat.le_refl _))).mono ?_
  rintro e W' ⟨rfl, hd⟩
  exact ⟨rfl, h.quiet hd⟩
set_option maxHeartbeats 1000000 in
set_option maxRecDepth 100000 in
theorem implPath_st (h : St w W L) (hu : ∀ W', St w W' L → Reads (Kd.int .i64) W' u x) (hu2 : ∀ W', St w W' L → Reads (Kd.int .i64) W' u2 s) :
    Calls Tryd.prog 14 #[u, u2] W fun e W' => ∃ v1 ok1, e = .returned (.tuple #[v1, .bool (pathB x s)]) ∧ St w W' (obS (Kd.slice 3 (Kd.int .i64)) 22 w ok1 v1 (pathF x s) :: L) := by
  obtain ⟨A, c, rfl, hc, _⟩ := hu W h
  obtain ⟨A2, c2, rfl, hc2, _⟩ := hu2 W h
  have H0 := Aside0.mk h
  obtain ⟨N, hN⟩ : ∃ N, N = x.length := ⟨_, rfl⟩
  obtain ⟨N2, hN2⟩ : ∃ N, N = s.length := ⟨_, rfl⟩
  have HU : Aside0 (∀ W', St w W' L → Reads (Kd.int .i64) W' (.slice A N c) x) := ⟨by rw [hN]; exact hu⟩
  have HU2 : Aside0 (∀ W', St w W' L → Reads (Kd.int .i64) W' (.slice A2 N2 c2) s) := ⟨by rw [hN2]; exact hu2⟩
  have HN := Aside0.mk hN
  have HN2 := Aside0.mk hN2
  rw [← hN, ← hN2]
  clear h hu hu2 hc hc2 hN hN2
  have HNO : Aside0 (¬ (isWord x = true ∧ isWord s = true ∧ x.length ≤ 7 ∧ x ∈ (reachW s).1) → pathF x s = [] ∧ pathB x s = false) := ⟨fun h => ⟨by unfold pathF; rw [if_neg h], by unfold pathB; exact decide_eq_false h⟩⟩
  have HNIL : Aside0 (∀ W', St w W' L → ∃ ok1, St w W' (obS (Kd.slice 3 (Kd.int .i64)) 22 w ok1 (.slice none 0 0) [] :: L)) := ⟨fun W' hW => hW.addS (Below.refl _ _) (Kd.S_nil (Kd.slice 3 (Kd.int .i64)) 22 W' W'.heap.size (fun _ => True))⟩
  by_cases hx : isWord x = true
  · have HX := Aside0.mk hx
    by_cases hs : isWord s = true
    · have HS := Aside0.mk hs
      by_cases h7 : N ≤ 7
      · have h7z : ¬ (7 : Int) < (N : Int) := by omega
        by_cases hm : x ∈ (reachW s).1
        · have HEq : Aside0 (areEq x s = true) := ⟨by unfold areEq; rw [hx, hs, (reach_class hs).1 hm]; simp⟩
          have HY : Aside0 (pathF x s = pathW s (pathD s x) x ∧ pathB x s = true) := ⟨by
            have h1 : isWord x = true ∧ isWord s = true ∧ x.length ≤ 7 ∧ x ∈ (reachW s).1 := ⟨hx, hs, by rw [← HN.out]; exact h7, hm⟩
            exact ⟨by unfold pathF; rw [if_pos h1], by unfold pathB; exact decide_eq_true h1⟩⟩
          have hs9 := (isWord_iff.1 hs).1
          have hd0 := pathD_eq hs9 hm
          have hln : x.length = s.length := (far_word hs hd0).2
          obtain ⟨d0, hd⟩ : ∃ d, d = pathD s x := ⟨_, rfl⟩
          rw [← hd] at hd0 HY
          have hdb := far_bd hd0 hs9
          have HD0 := Aside0.mk hd0
          have HLN := Aside0.mk hln
          have HS7 : Aside0 (s.length ≤ 9) := ⟨hs9⟩
          clear hx hs hm hd hd0 hln hs9 HNO HNIL
          go_enter Tryd.func14, Tryd.ntmps14
          go_wp2_with (first
            | (go_at_call 18; (with_reducible refine (isWord_st H0.out (HU.out _ H0.out) HX.out).mono ?_); rintro e w1 ⟨rfl, h_⟩; have H1 := Aside0.mk h_; clear h_)
            | (go_at_call 18; (with_reducible refine (isWord_st H1.out (HU2.out _ H1.out) HS.out).mono ?_); rintro e w2 ⟨rfl, h_⟩; have H2 := Aside0.mk h_; clear h_)
            | (go_at_call 25; refine (areEq_st H2.out (HU.out _ H2.out) (HU2.out _ H2.out) HEq.out).mono ?_; rintro e w3 ⟨rfl, h_⟩; have H3 := Aside0.mk h_; clear h_)
            | (go_at_call 19; refine (distances_st H3.out HU2.out HS.out HS7.out).mono ?_; rintro e w4 ⟨gl, cl, b, okl, okp, lps, rfl, _, _, _, h_⟩; have hb5 : lps.length ≤ 362880 := (by have h1 := bfs_few s HS7.out capW; have h2 : lps.length = (reachW s).1.length := (by rename_i hr5 _ _; rw [← hr5, List.length_map]); have h3 : (reachW s).1.length = (bfs waysO s capW).1.length := rfl; omega); obtain ⟨nl, hnl⟩ : ∃ nl, nl = lps.length := ⟨_, rfl⟩; have h4 : St w w4 (obM b nl s.length (farOf (reachW s)) :: L) := (by rw [hnl]; exact St.less h_ (.cons _ (.cons _ (List.Sublist.refl _)))); have H4 := Aside0.mk h4; clear h_ h4 hb5)
            | (go_at_call 26; refine (clone0_st H4.out (HU.out _ (St.drop_ H4.out)) (by rw [← HN.out]; omega)).mono ?_; rintro e w5 ⟨A5, c5, ok5, rfl, h_⟩; have H5 := Aside0.mk h_; clear h_)
            | ((with_reducible refine gate_dst (N := 42) rfl ?_); refine St.oneP (N := 42) ⟨0, A5, c5, x⟩ rfl rfl ?hr H5.out ?_; (case hr => (unfold Rw.v; first | (go_simp; done) | (go_simp; rfl))); intro g6 w6 ok6 h_; have H6 := Aside0.mk h_; clear h_)
            | (go_at_call 27; refine (wordText_st H6.out (HU.out _ (St.drop_ (St.drop_ (St.drop_ H6.out))))).mono ?_; rintro e w7 ⟨rfl, h_⟩; obtain ⟨c7, _, hr7, hc7⟩ := St.askM h_ 2 rfl HX.out HLN.out; rw [hc7 _ HD0.out] at hr7; have H7 := Aside0.mk h_; clear h_ hc7))
          have HI : Aside0 (∃ okB, St w w7 (obR spK 22 w ok6 (.slice (some ⟨g6, 0, none⟩) 1 1) [⟨0, A5, c5, x⟩] :: obP w okB [⟨0, A5, c5, x⟩] :: obM b nl s.length (farOf (reachW s)) :: L)) := ⟨⟨_, St.perm_ (St.pool (St.perm_ H7.out (List.Perm.swap _ _ _)) 0) (List.Perm.swap _ _ _)⟩⟩
          obtain ⟨okB, h_⟩ := HI.out
          have HS0 := Aside0.mk h_
          clear h_ HI H0 H1 H2 H3 H4 H5 H6 H7 hr7
          go_loopg [8, 9, 10] d0 (fun kq v8 v9 v10 wr => ∃ (d : Nat) (y : List Int) (Ay : Option Addr) (cy ky g c1 M : Nat) (os : List Rw) (ok okD : Nat → Prop), d ≤ kq ∧ d ≤ d0 ∧ v10 = .int .i64 (d : Int) ∧ v8 = .slice Ay y.length cy ∧ v9 = .slice (some ⟨g, 0, none⟩) os.length c1 ∧ os.length ≤ c1 ∧ os.length + d ≤ d0 + 1 ∧ Aside0 (os.map Rw.r ++ (pathW s d y).drop 1 = pathW s d0 x ∧ (os.map Rw.k).Nodup ∧ (∀ p ∈ os, p.k < M) ∧ (⟨ky, Ay, cy, y⟩ : Rw) ∈ os) ∧ Aside0 (farOf (reachW s) y = some (d : Int)) ∧ Aside0 (St w wr (obR spK 22 w ok v9 os :: obP w okD os :: obM b nl s.length (farOf (reachW s)) :: L)))
          case atStart => exact ⟨d0, x, A5, c5, 0, g6, 1, 1, [⟨0, A5, c5, x⟩], ok6, okB, Nat.le_refl _, Nat.le_refl _, rfl, rfl, rfl, by simp, by simp; omega, ⟨by cases d0 <;> rfl, by simp, fun p hp => by rw [List.mem_singleton.1 hp]; exact Nat.zero_lt_one, by simp⟩, HD0, HS0⟩
          case round =>
            clear HS0
            obtain ⟨d, y, Ay, cy, ky, g, c1, M, os, ok, okD, hg, hdd, rfl, rfl, rfl, hc1, hol, HO, HFY, HSt⟩ := hrel
            by_cases h0 : 0 < d
            · obtain ⟨e, rfl⟩ : ∃ e, d = e + 1 := ⟨d - 1, by omega⟩
              have hdz : (0 : Int) < ((e + 1 : Nat) : Int) := by omega
              obtain ⟨hi1, hi2, hi3⟩ := stepI_ok HS.out HFY.out
              obtain ⟨hyw, hyl⟩ := far_word HS.out HFY.out
              have HYW := Aside0.mk hyw
              have HYL := Aside0.mk hyl
              obtain ⟨ns, hns⟩ : ∃ ns, ns = waysO y := ⟨_, rfl⟩
              rw [← hns] at hi1 hi3
              obtain ⟨q1, hq1⟩ : ∃ q, q = stepI s y e := ⟨_, rfl⟩
              rw [← hq1] at hi1 hi3
              have hnsb : ns.length ≤ 9 := by rw [hns]; exact (waysO_bd y).1
              have HNS := Aside0.mk hns
              have HQ1 := Aside0.mk hq1
              have HI2 := Aside0.mk hi2
              have HI3 := Aside0.mk hi3
              obtain ⟨e1, he1⟩ : ∃ z : Int, z = ((e + 1 : Nat) : Int) := ⟨_, rfl⟩
              have ew : IntKind.i64.wrap (e1 - 1) = (e : Int) := by rw [IntWalk.i64_in _ (by omega)]; omega
              have HE1 := Aside0.mk he1
              rw [← he1] at hdz ⊢
              clear hyw hyl hns hq1 hi2 hi3 he1
              go_wp2_with (first
                | (go_at_call 28; refine (implWays_st (x := y) HSt.out (fun W' hW => St.readP hW 1 rfl HO.out.2.2.2) HYW.out).mono ?_; rintro e w8 ⟨v8, ok8, rfl, h_⟩; rw [← HNS.out] at h_; obtain ⟨nps, okn, oknp, hr8, hk8, h8⟩ := St.split h_ M; obtain ⟨A8, c8, e8, hc8, _⟩ := St.readS0 h8 0 rfl; have HNL : Aside0 (nps.length = ns.length) := ⟨by rw [← hr8, List.length_map]⟩; rw [HNL.out] at e8 hc8; subst e8; have HR8 := Aside0.mk hr8; have HK8 := Aside0.mk hk8; obtain ⟨okq, h9⟩ := St.pour (St.perm_ h8 perm5); have H9 := Aside0.mk h9; clear h_ h8 h9 hr8 hk8))
              clear HSt
              go_loopg [8, 54] ns.length (fun kq v8 v54 wr => ∃ (q : Nat), q ≤ q1 ∧ ns.length - q ≤ kq ∧ v54 = .int .i64 (q : Int) ∧ v8 = .slice Ay y.length cy ∧ Aside0 (St w wr (obP w okq (nps ++ os) :: obR spK 22 w ok (.slice (some ⟨g, 0, none⟩) os.length c1) os :: obM b nl s.length (farOf (reachW s)) :: obR spK 22 w okn (.slice A8 ns.length c8) nps :: L)))
              case atStart => exact ⟨0, Nat.zero_le _, by omega, rfl, rfl, H9⟩
              case round =>
                clear H9
                obtain ⟨q, hq, hgq, rfl, rfl, HSq⟩ := hrel
                have hlq : q < ns.length := by omega
                have hqz : (q : Int) < (ns.length : Int) := by omega
                have hq0 : (0 : Int) ≤ (q : Int) := by omega
                have hqn : q < nps.length := by rw [HNL.out]; exact hlq
                have hqw : IntKind.i64.wrap ((q : Int) + 1) = ((q + 1 : Nat) : Int) := by rw [IntWalk.i64_in _ (by omega)]; omega
                obtain ⟨gn, cn, e5, _, _⟩ := St.spine HSq.out 3 rfl (by omega)
                rw [HNL.out] at e5
                injection e5 with e5 _ e6
                subst e5 e6
                obtain ⟨z, hz⟩ : ∃ z, nps[q] = z := ⟨_, rfl⟩
                have hcell := (St.cellP HSq.out 3 rfl q hqn).1
                rw [hz] at hcell
                have HZM := Aside0.mk (show z ∈ nps ++ os by rw [← hz]; exact List.mem_append_left _ (List.getElem_mem hqn))
                have HZK : Aside0 (z.k = q + M) := ⟨by
                  have h1 : (nps.map Rw.k)[q]? = some z.k := by rw [List.getElem?_map, List.getElem?_eq_getElem hqn, hz]; rfl
                  rw [HK8.out, List.getElem?_map, List.getElem?_eq_getElem (by simpa using hlq), List.getElem_range] at h1
                  exact (Option.some.inj h1).symm⟩
                have hzr : ns[q]? = some z.r := by
                  have h1 : (nps.map Rw.r)[q]? = some z.r := by rw [List.getElem?_map, List.getElem?_eq_getElem hqn, hz]; rfl
                  rwa [HR8.out] at h1
                have hzg : ns.getD q [] = z.r := by rw [List.getD_eq_getElem?_getD, hzr]; rfl
                have hzp : z.r.Perm y := waysO_perm (by rw [← HNS.out]; exact List.mem_of_getElem? hzr)
                have HZW : Aside0 (isWord z.r = true) := ⟨isWord_perm hzp HYW.out⟩
                have HZN : Aside0 (z.r.length = s.length) := ⟨by rw [hzp.length_eq]; exact HYL.out⟩
                have HZG := Aside0.mk hzg
                clear hz hzr hzp hzg
                obtain ⟨zk, zA, zc, zr⟩ := z
                change wr.cell? ⟨gn, q, none⟩ = some (.slice zA zr.length zc) at hcell
                by_cases hqq : q = q1
                · subst hqq
                  have hfz : farOf (reachW s) zr = some (e : Int) := by
                    have h1 := HI2.out
                    unfold stepW at h1
                    rw [← HQ1.out, ← HNS.out, HZG.out] at h1
                    exact h1
                  have HFZ := Aside0.mk hfz
                  have HSW : Aside0 (stepW s y e = zr) := ⟨by unfold stepW; rw [← HQ1.out, ← HNS.out]; exact HZG.out⟩
                  clear hfz
                  have HQ2 : Aside0 ((os ++ [Rw.mk zk zA zc zr]).map Rw.r ++ (pathW s e zr).drop 1 = pathW s d0 x ∧ ((os ++ [Rw.mk zk zA zc zr]).map Rw.k).Nodup ∧ (∀ p ∈ os ++ [Rw.mk zk zA zc zr], p.k < M + ns.length) ∧ (⟨zk, zA, zc, zr⟩ : Rw) ∈ os ++ [Rw.mk zk zA zc zr]) := ⟨by
                    refine ⟨?_, ?_, fun p hp => ?_, by simp⟩
                    · rw [← HO.out.1, drop_one, HSW.out, List.map_append, List.append_assoc]; rfl
                    · rw [List.map_append]
                      refine List.nodup_append.2 ⟨HO.out.2.1, by simp, fun a ha b hb e => ?_⟩
                      obtain ⟨p, hp, rfl⟩ := List.mem_map.1 ha
                      have hb2 : b = zk := by simpa using hb
                      have hk2 : zk = q + M := HZK.out
                      have := HO.out.2.2.1 p hp
                      omega
                    · rcases List.mem_append.1 hp with hp | hp
                      · have := HO.out.2.2.1 p hp; omega
                      · rw [List.mem_singleton.1 hp]
                        have hk2 : zk = q + M := HZK.out
                        show zk < _
                        omega⟩
                  have HL2 : Aside0 ((os ++ [Rw.mk zk zA zc zr]).length = os.length + 1) := ⟨by simp⟩
                  have HMM : Aside0 (∀ p ∈ os ++ [Rw.mk zk zA zc zr], p ∈ nps ++ os) := ⟨fun p hp => by
                    rcases List.mem_append.1 hp with hp | hp
                    · exact List.mem_append_right _ hp
                    · rw [List.mem_singleton.1 hp]; exact HZM.out⟩
                  have hb1 : (os.length + 1) * 24 ≤ 140737488355328 := by omega
                  go_wp2_with (first
                    | (go_at_call 27; refine (wordText_st HSq.out (St.readP HSq.out 0 rfl HZM.out)).mono ?_; rintro e w10 ⟨rfl, h_⟩; obtain ⟨c10, hr10, _, hc10⟩ := St.askM h_ 2 rfl HZW.out HZN.out; rw [hc10 _ HFZ.out, HFZ.out, Option.isSome_some] at hr10; have H10 := Aside0.mk h_; clear h_ hc10)
                    | (at_builtin; refine St.addP rfl (.tmp 74) (.tmp 76) rfl ⟨zk, zA, zc, zr⟩ H10.out 1 rfl rfl rfl hb1 ?_; intro v12 w12 ok12 h_; obtain ⟨g12, c12, e12, hc12, _⟩ := St.spine h_ 1 rfl (by simp); subst e12; have h13 := St.thin h_ 0 rfl HMM.out; have H13 : Aside0 (St w w12 (obR spK 22 w ok12 (.slice (some ⟨g12, 0, none⟩) (os ++ [Rw.mk zk zA zc zr]).length c12) (os ++ [Rw.mk zk zA zc zr]) :: obP w okq (os ++ [Rw.mk zk zA zc zr]) :: obM b nl s.length (farOf (reachW s)) :: L)) := (⟨St.less (St.perm_ h13 (List.Perm.swap _ _ _)) (.cons_cons _ (.cons_cons _ (.cons_cons _ (.cons _ (List.Sublist.refl _)))))⟩); clear h_ h13; generalize os ++ [Rw.mk zk zA zc zr] = os2 at *))
                  go_roundg e
                  case measure => have := HE1.out; omega
                  case rel => exact ⟨e, zr, zA, zc, zk, g12, c12, M + ns.length, os2, ok12, okq, Nat.le_refl _, by omega, rfl, rfl, rfl, hc12, by have := HL2.out; omega, HQ2, HFZ, H13⟩
                · have hne : farOf (reachW s) zr ≠ some (e : Int) := by
                    have h1 := HI3.out q (by omega)
                    rw [HZG.out] at h1
                    exact h1
                  have hqs : q + 1 ≤ q1 := by omega
                  clear hqq
                  cases hF : farOf (reachW s) zr with
                  | none =>
                    have HF0 := Aside0.mk hF
                    clear hF hne
                    go_wp2_with (first
                      | (go_at_call 27; refine (wordText_st HSq.out (St.readP HSq.out 0 rfl HZM.out)).mono ?_; rintro e w10 ⟨rfl, h_⟩; obtain ⟨c10, hr10, _, _⟩ := St.askM h_ 2 rfl HZW.out HZN.out; rw [HF0.out, Option.isSome_none] at hr10; have H10 := Aside0.mk h_; clear h_))
                    go_roundg (ns.length - (q + 1))
                    case measure => omega
                    case rel => exact ⟨q + 1, hqs, Nat.le_refl _, by go_num, rfl, H10⟩
                  | some f =>
                    have HF0 := Aside0.mk hF
                    have hfe : (f == (e : Int)) = false := beq_eq_false_iff_ne.mpr (fun h => hne (by rw [hF, h]))
                    clear hF hne
                    go_wp2_with (first
                      | (go_at_call 27; refine (wordText_st HSq.out (St.readP HSq.out 0 rfl HZM.out)).mono ?_; rintro e w10 ⟨rfl, h_⟩; obtain ⟨c10, hr10, _, hc10⟩ := St.askM h_ 2 rfl HZW.out HZN.out; rw [hc10 _ HF0.out, HF0.out, Option.isSome_some] at hr10; have H10 := Aside0.mk h_; clear h_ hc10))
                    go_roundg (ns.length - (q + 1))
                    case measure => omega
                    case rel => exact ⟨q + 1, hqs, Nat.le_refl _, by go_num, rfl, H10⟩
            · have hdz : d = 0 := by omega
              subst hdz
              have HR : Aside0 (os.map Rw.r = pathF x s) := ⟨by rw [HY.out.1, ← HO.out.1]; show _ = _ ++ []; rw [List.append_nil]⟩
              obtain ⟨ok9, h9⟩ := St.join HSt.out (fun _ h => h) HO.out.2.1
              have H9 := Aside0.mk (St.less h9 (.cons_cons _ (.cons _ (List.Sublist.refl _))))
              clear h9 HSt
              go_wp2
              go_ret2
              exact ⟨_, ok9, by rw [HY.out.2] <;> rfl, by rw [← HR.out]; exact H9.out⟩
        · have HEq : Aside0 (areEq x s = false) := ⟨by
            unfold areEq
            rw [hx, hs]
            simp only [Bool.true_and]
            exact decide_eq_false (fun e => hm ((reach_class hs).2 e.symm))⟩
          have HF := Aside0.mk (HNO.out (fun h => hm h.2.2.2))
          clear hx hs hm
          go_enter Tryd.func14, Tryd.ntmps14
          go_wp2_with (first
            | (go_at_call 18; (with_reducible refine (isWord_st H0.out (HU.out _ H0.out) HX.out).mono ?_); rintro e w1 ⟨rfl, h_⟩; have H1 := Aside0.mk h_; clear h_)
            | (go_at_call 18; (with_reducible refine (isWord_st H1.out (HU2.out _ H1.out) HS.out).mono ?_); rintro e w2 ⟨rfl, h_⟩; have H2 := Aside0.mk h_; clear h_)
            | (go_at_call 25; refine (areEq_st H2.out (HU.out _ H2.out) (HU2.out _ H2.out) HEq.out).mono ?_; rintro e w3 ⟨rfl, h_⟩; have H3 := Aside0.mk h_; clear h_))
          go_ret2
          obtain ⟨ok9, h9⟩ := HNIL.out _ H3.out
          exact ⟨_, ok9, by rw [HF.out.2] <;> rfl, by rw [HF.out.1]; exact h9⟩
      · have h7z : (7 : Int) < (N : Int) := by omega
        have HF := Aside0.mk (HNO.out (fun h => h7 (by rw [HN.out]; exact h.2.2.1)))
        clear hx hs
        go_enter Tryd.func14, Tryd.ntmps14
        go_wp2_with (first
          | (go_at_call 18; (with_reducible refine (isWord_st H0.out (HU.out _ H0.out) HX.out).mono ?_); rintro e w1 ⟨rfl, h_⟩; have H1 := Aside0.mk h_; clear h_)
          | (go_at_call 18; (with_reducible refine (isWord_st H1.out (HU2.out _ H1.out) HS.out).mono ?_); rintro e w2 ⟨rfl, h_⟩; have H2 := Aside0.mk h_; clear h_))
        go_ret2
        obtain ⟨ok9, h9⟩ := HNIL.out _ H2.out
        exact ⟨_, ok9, by rw [HF.out.2] <;> rfl, by rw [HF.out.1]; exact h9⟩
    · have HS : Aside0 (isWord s = false) := ⟨by simpa using hs⟩
      have HF := Aside0.mk (HNO.out (fun h => hs h.2.1))
      clear hx hs
      go_enter Tryd.func14, Tryd.ntmps14
      go_wp2_with (first
        | (go_at_call 18; (with_reducible refine (isWord_st H0.out (HU.out _ H0.out) HX.out).mono ?_); rintro e w1 ⟨rfl, h_⟩; have H1 := Aside0.mk h_; clear h_)
        | (go_at_call 18; (with_reducible refine (isWord_st H1.out (HU2.out _ H1.out) HS.out).mono ?_); rintro e w2 ⟨rfl, h_⟩; have H2 := Aside0.mk h_; clear h_))
      go_ret2
      obtain ⟨ok9, h9⟩ := HNIL.out _ H2.out
      exact ⟨_, ok9, by rw [HF.out.2] <;> rfl, by rw [HF.out.1]; exact h9⟩
  · have HX : Aside0 (isWord x = false) := ⟨by simpa using hx⟩
    have HF := Aside0.mk (HNO.out (fun h => hx h.1))
    clear hx
    go_enter Tryd.func14, Tryd.ntmps14
    go_wp2_with (first
      | (go_at_call 18; (with_reducible refine (isWord_st H0.out (HU.out _ H0.out) HX.out).mono ?_); rintro e w1 ⟨rfl, h_⟩; have H1 := Aside0.mk h_; clear h_))
    go_ret2
    obtain ⟨ok9, h9⟩ := HNIL.out _ H1.out
    exact ⟨_, ok9, by rw [HF.out.2] <;> rfl, by rw [HF.out.1]; exact h9⟩
end
end Go.Proofs.YthdoglkdcbghpaaDoor.Q

set_option linter.unusedVariables false
set_option linter.unusedSimpArgs false
namespace Go.Proofs.YthdoglkdcbghpaaDoor.Q
open Go.RowKit Go.Proofs.YthdoglkdcbghpaaDoor.F Go.Proofs.YthdoglkdcbghpaaDoorW.PrintWords Go.Proofs.YthdoglkdcbghpaaDoorW.PrintLast Go.Proofs.YthdoglkdcbghpaaDoorW.PrintMore
theorem eqIntS_l0 (a b : List Int) (hl : a.length = b.length) (hb : a.length ≤ 1152921504606846976) : ∀ (d i : Nat), i + d = a.length → Ev (fun k => laws_eqIntS.l0 k a b (i : Int)) (decide (a.drop i = b.drop i)) := by
  intro d
  induction d with
  | zero =>
    intro i h
    refine Ev.step (fun k => by rw [laws_eqIntS.l0]) ?_
    refine ev_neg (by omega) (ev_val ?_)
    rw [List.drop_of_length_le (by omega), List.drop_of_length_le (by omega)]
    simp
  | succ d ih =>
    intro i h
    refine Ev.step (fun k => by rw [laws_eqIntS.l0]) ?_
    refine ev_pos (by omega) (ev_pos (by omega) (ev_pos (by omega) (ev_ite (fun he => ?_) (fun he => ev_val ?_))))
    · rw [wrap_succ (by omega)]
      refine ev_eq (ih (i + 1) (by omega)) ?_
      rw [drop_rd a i (by omega), drop_rd b i (by omega), he]
      simp
    · rw [drop_rd a i (by omega), drop_rd b i (by omega)]
      simp [he]
theorem eqIntS_ev (a b : List Int) (hb : a.length ≤ 1152921504606846976) : Ev (fun k => laws_eqIntS.f k a b) (decide (a = b)) := by
  unfold laws_eqIntS.f
  refine ev_ite (fun h => ?_) (fun h => ev_val ?_)
  · have := eqIntS_l0 a b (by omega) hb a.length 0 (by omega)
    simpa using this
  · have : a ≠ b := fun e => h (by rw [e])
    simp [this]
theorem eqIntS_same (a : List Int) (hb : a.length ≤ 1048576) : Ev (fun k => laws_eqIntS.f k a a) true := ev_eq (eqIntS_ev a a (by omega)) (by simp)
end Go.Proofs.YthdoglkdcbghpaaDoor.Q

set_option linter.unusedVariables false
set_option linter.unusedSimpArgs false
namespace Go.Proofs.YthdoglkdcbghpaaDoor.Q
open Go.RowKit Go.Proofs.YthdoglkdcbghpaaDoor.F Go.Proofs.YthdoglkdcbghpaaDoorW.PrintWords Go.Proofs.YthdoglkdcbghpaaDoorW.PrintLast Go.Proofs.YthdoglkdcbghpaaDoorW.PrintMore
theorem toIntS_l0 (l : List Int) (hl : l.length ≤ 1048576) : ∀ (d i : Nat), i + d = l.length → Ev (fun k => laws_toIntS.l0 k l (l.take i ++ List.replicate d 0) (i : Int)) l := by
  intro d
  induction d with
  | zero =>
    intro i h
    refine Ev.step (fun k => by rw [laws_toIntS.l0]) ?_
    refine ev_neg (by omega) (ev_val ?_)
    simp [List.take_of_length_le (show l.length ≤ i by omega)]
  | succ d ih =>
    intro i h
    have hi : i < l.length := by omega
    refine Ev.step (fun k => by rw [laws_toIntS.l0]) ?_
    refine ev_pos (by omega) (ev_pos (by omega) (ev_pos (by simp; omega) ?_))
    have e : (l.take i ++ List.replicate (d + 1) 0).set (i : Int).toNat (rd l (i : Int)) = l.take (i + 1) ++ List.replicate d 0 := by
      rw [take_rd l i hi, List.set_append_right _ _ (by simp; omega)]
      simp [List.replicate_succ, Nat.min_eq_left (Nat.le_of_lt hi)]
    rw [e, wrap_succ (by omega)]
    exact ih (i + 1) (by omega)
theorem toIntS_ev (l : List Int) (hl : l.length ≤ 1048576) : Ev (fun k => laws_toIntS.f k l) l := by
  unfold laws_toIntS.f
  refine ev_pos (by omega) (ev_pos (by simp; omega) ?_)
  have := toIntS_l0 l hl l.length 0 (by omega)
  simpa using this
end Go.Proofs.YthdoglkdcbghpaaDoor.Q

set_option linter.unusedVariables false
set_option linter.unusedSimpArgs false
namespace Go.Proofs.YthdoglkdcbghpaaDoor.Q
open Go.RowKit Go.Proofs.YthdoglkdcbghpaaDoor.F Go.Proofs.YthdoglkdcbghpaaDoorW.PrintWords Go.Proofs.YthdoglkdcbghpaaDoorW.PrintLast Go.Proofs.YthdoglkdcbghpaaDoorW.PrintMore
/-- m, m + 1 and so on, n of them -/
def marks (m n : Nat) : List Int := (List.range n).map (fun i => ((m + i : Nat) : Int))
theorem marks_length (m n : Nat) : (marks m n).length = n := by simp [marks]
theorem marks_succ (m n : Nat) : marks m (n + 1) = marks m n ++ [((m + n : Nat) : Int)] := by simp [marks, List.range_succ]
theorem marks_rd (m n i : Nat) (h : i < n) : rd (marks m n) (i : Int) = ((m + i : Nat) : Int) := by
  rw [rd_eq _ i (by rw [marks_length]; exact h)]; simp [marks]
theorem markIntS_ev (l : List Int) (m : Nat) (hl : l.length ≤ 1152921504606846976) (hm : m ≤ 2305843009213693952) : Ev (fun k => laws_markIntS.f k l (m : Int)) (((m + l.length : Nat) : Int), marks m l.length) := by
  unfold laws_markIntS.f
  refine downTo (P := fun i => Ev (fun k => laws_markIntS.l0 k (marks m i ++ l.drop i) ((m + i : Nat) : Int) (i : Int)) (((m + l.length : Nat) : Int), marks m l.length)) l.length ?_ ?_ 0 (by omega)
  · refine Ev.step (fun k => by rw [laws_markIntS.l0]) ?_
    rw [List.drop_length, List.append_nil]
    exact ev_neg (by rw [marks_length]; omega) (ev_val rfl)
  · intro i hi ih
    refine Ev.step (fun k => by rw [laws_markIntS.l0]) ?_
    refine ev_pos (by simp [marks_length]; omega) (ev_pos (by omega) ?_)
    have e : (marks m i ++ l.drop i).set (i : Int).toNat ((m + i : Nat) : Int) = marks m (i + 1) ++ l.drop (i + 1) := by
      rw [Int.toNat_natCast, List.set_append_right _ _ (by rw [marks_length]; omega), marks_length, Nat.sub_self, drop_rd l i hi, marks_succ]
      simp
    rw [e, wrap_succ (by omega), wrap_succ (by omega)]
    exact ih
theorem heldIntS_ev (m n : Nat) (hl : n ≤ 1152921504606846976) (hm : m ≤ 2305843009213693952) : Ev (fun k => laws_heldIntS.f k (marks m n) (m : Int)) ((m + n : Nat) : Int) := by
  unfold laws_heldIntS.f
  refine downTo (P := fun i => Ev (fun k => laws_heldIntS.l0 k (marks m n) ((m + i : Nat) : Int) (i : Int)) ((m + n : Nat) : Int)) n ?_ ?_ 0 (by omega)
  · refine Ev.step (fun k => by rw [laws_heldIntS.l0]) ?_
    exact ev_neg (by rw [marks_length]; omega) (ev_val rfl)
  · intro i hi ih
    refine Ev.step (fun k => by rw [laws_heldIntS.l0]) ?_
    refine ev_pos (by rw [marks_length]; omega) (ev_pos (by omega) (ev_pos (marks_rd m n i hi) ?_))
    rw [wrap_succ (by omega), wrap_succ (by omega)]
    exact ih
end Go.Proofs.YthdoglkdcbghpaaDoor.Q

set_option linter.unusedVariables false
set_option linter.unusedSimpArgs false
namespace Go.Proofs.YthdoglkdcbghpaaDoor.Q
open Go.RowKit Go.Proofs.YthdoglkdcbghpaaDoor.F Go.Proofs.YthdoglkdcbghpaaDoorW.PrintWords Go.Proofs.YthdoglkdcbghpaaDoorW.PrintLast Go.Proofs.YthdoglkdcbghpaaDoorW.PrintMore
section
variable {w W : World} {L L' : List Ob} {ok ok' : Nat → Prop} {v v' : Value} {xs ys : List Int}
theorem toIntS_st (h : St w W L) (hr : Reads (Kd.int .i64) W v xs) (hl : xs.length ≤ 1048576) :
    Calls Tryd.prog 6 #[v] W fun e W' => ∃ v1 ok1, e = .returned v1 ∧ St w W' (obR (Kd.int .i64) 3 w ok1 v1 xs :: L) := by
  obtain ⟨A, c, rfl, hc, hC⟩ := hr
  obtain ⟨K, hK⟩ := toIntS_ev xs hl
  refine (laws_toIntS.calls K A c xs xs W hC hc (hK K (Nat.le_refl _))).mono ?_
  rintro e W' ⟨v1, rfl, hR, hB⟩
  obtain ⟨ok1, h1⟩ := h.addR hB hR
  exact ⟨v1, ok1, rfl, h1⟩
theorem eqIntS_st (h : St w W L) (hr : Reads (Kd.int .i64) W v xs) (hr' : Reads (Kd.int .i64) W v' ys) (hl : xs.length ≤ 1152921504606846976) :
    Calls Tryd.prog 9 #[v, v'] W fun e W' => e = .returned (.bool (decide (xs = ys))) ∧ St w W' L := by
  obtain ⟨A, c, rfl, hc, hC⟩ := hr
  obtain ⟨A', c', rfl, hc', hC'⟩ := hr'
  obtain ⟨K, hK⟩ := eqIntS_ev xs ys hl
  refine (laws_eqIntS.calls K A c xs A' c' ys _ W hC hc hC' hc' (hK K (Nat.le_refl _))).mono ?_
  rintro e W' ⟨rfl, hd⟩
  exact ⟨rfl, h.drawn hd⟩
theorem eqIntS_st_same (h : St w W L) (hr : Reads (Kd.int .i64) W v xs) (hr' : Reads (Kd.int .i64) W v' xs) (hl : xs.length ≤ 1152921504606846976) :
    Calls Tryd.prog 9 #[v, v'] W fun e W' => e = .returned (.bool true) ∧ St w W' L := by
  refine (eqIntS_st h hr hr' hl).mono ?_
  rintro e W' ⟨rfl, hd⟩
  exact ⟨by simp, hd⟩
theorem markIntS_st (h : St w W L) (i : Nat) (hi : L[i]? = some (obR (Kd.int .i64) 3 w ok v xs)) (m : Nat) (hm : m ≤ 2305843009213693952) (hl : xs.length ≤ 1152921504606846976) (hL : L.set i (obR (Kd.int .i64) 3 w ok v (marks m xs.length)) = L') :
    Calls Tryd.prog 10 #[v, .int .i64 (m : Int)] W fun e W' => e = .returned (.int .i64 ((m + xs.length : Nat) : Int)) ∧ St w W' L' := by
  obtain ⟨K, hK⟩ := markIntS_ev xs m hl hm
  have hR : Kd.R (Kd.int .i64) 3 W w.heap.size ok v xs := h.get i hi
  refine (laws_markIntS.calls K ok v xs (m : Int) _ _ w W h.below hR (hK K (Nat.le_refl _))).mono ?_
  rintro e W' ⟨rfl, hr, hb, hk⟩
  exact ⟨rfl, h.mark (o' := obR (Kd.int .i64) 3 w ok v (marks m xs.length)) i hi rfl firmR hb hk (Kd.R_mono (Kd.R_tight rfl hr) (fun k hk => hR.1 k hk.symm)) hL⟩
theorem heldIntS_st (h : St w W L) (n : Nat) (m : Nat) (hr : Reads (Kd.int .i64) W v (marks m n)) (hm : m ≤ 2305843009213693952) (hl : n ≤ 1152921504606846976) :
    Calls Tryd.prog 22 #[v, .int .i64 (m : Int)] W fun e W' => e = .returned (.int .i64 ((m + n : Nat) : Int)) ∧ St w W' L := by
  obtain ⟨A, c, rfl, hc, hC⟩ := hr
  obtain ⟨K, hK⟩ := heldIntS_ev m n hl hm
  refine (laws_heldIntS.calls K A c _ (m : Int) _ W hC hc (hK K (Nat.le_refl _))).mono ?_
  rintro e W' ⟨rfl, hd⟩
  exact ⟨rfl, h.drawn hd⟩
end
end Go.Proofs.YthdoglkdcbghpaaDoor.Q

set_option linter.unusedVariables false
set_option linter.unusedSimpArgs false
namespace Go.Proofs.YthdoglkdcbghpaaDoor.Q
open Go.RowKit Go.Proofs.YthdoglkdcbghpaaDoor.F Go.Proofs.YthdoglkdcbghpaaDoorW.PrintWords Go.Proofs.YthdoglkdcbghpaaDoorW.PrintLast Go.Proofs.YthdoglkdcbghpaaDoorW.PrintMore
theorem eqIntSS_ev (a b : List (List Int)) (hl : a.length ≤ 1152921504606846976) (hr : ∀ r ∈ a, r.length ≤ 1152921504606846976) : Ev (fun k => laws_eqIntSS.f k a b) (decide (a = b)) := by
  unfold laws_eqIntSS.f
  refine ev_ite (fun h => ?_) (fun h => ev_val ?_)
  · have := downTo (P := fun i => Ev (fun k => laws_eqIntSS.l0 k a b (i : Int)) (decide (a.drop i = b.drop i))) a.length ?_ ?_ 0 (by omega)
    · simpa using this
    · refine Ev.step (fun k => by rw [laws_eqIntSS.l0]) ?_
      refine ev_neg (by omega) (ev_val ?_)
      rw [List.drop_of_length_le (by omega), List.drop_of_length_le (by omega)]
      simp
    · intro i hi ih
      refine Ev.step (fun k => by rw [laws_eqIntSS.l0]) ?_
      refine ev_pos (by omega) (ev_pos (by omega) (ev_pos (by omega) (Ev.bind (eqIntS_ev _ _ (hr _ (rows_mem a i hi))) (ev_ite (fun he => ?_) (fun he => ev_val ?_)))))
      · rw [wrap_succ (by omega)]
        refine ev_eq ih ?_
        rw [decide_eq_true_eq] at he
        rw [drop_rows a i (by omega), drop_rows b i (by omega), he]
        simp
      · rw [decide_eq_true_eq] at he
        rw [drop_rows a i (by omega), drop_rows b i (by omega)]
        simp [he]
  · have : a ≠ b := fun e => h (by rw [e])
    simp [this]
theorem eqIntSS_same (a : List (List Int)) (hl : a.length ≤ 1048576) (hr : ∀ r ∈ a, r.length ≤ 1048576) : Ev (fun k => laws_eqIntSS.f k a a) true := ev_eq (eqIntSS_ev a a (by omega) (fun r h => by have := hr r h; omega)) (by simp)
end Go.Proofs.YthdoglkdcbghpaaDoor.Q

set_option linter.unusedVariables false
set_option linter.unusedSimpArgs false
namespace Go.Proofs.YthdoglkdcbghpaaDoor.Q
open Go.RowKit Go.Proofs.YthdoglkdcbghpaaDoor.F Go.Proofs.YthdoglkdcbghpaaDoorW.PrintWords Go.Proofs.YthdoglkdcbghpaaDoorW.PrintLast Go.Proofs.YthdoglkdcbghpaaDoorW.PrintMore
/-- m, m + 1 and so on, over the rows -/
def rowMarks (m : Nat) : List (List Int) → List (List Int)
  | [] => []
  | r :: l => marks m r.length :: rowMarks (m + r.length) l
theorem rowMarks_length (l : List (List Int)) (m : Nat) : (rowMarks m l).length = l.length := by
  induction l generalizing m with
  | nil => rfl
  | cons r l ih => simp [rowMarks, ih]
theorem bulk_append (a b : List (List Int)) : bulk (a ++ b) = bulk a + bulk b := by
  induction a with
  | nil => simp [bulk]
  | cons r l ih => simp only [List.cons_append, bulk, ih]; omega
theorem rowMarks_append (a b : List (List Int)) (m : Nat) : rowMarks m (a ++ b) = rowMarks m a ++ rowMarks (m + bulk a) b := by
  induction a generalizing m with
  | nil => simp [rowMarks, bulk]
  | cons r l ih => simp only [List.cons_append, rowMarks, bulk, ih, Nat.add_assoc]
theorem bulk_rowMarks (l : List (List Int)) (m : Nat) : bulk (rowMarks m l) = bulk l := by
  induction l generalizing m with
  | nil => rfl
  | cons r l ih => simp [rowMarks, bulk, ih, marks_length]
theorem rowMarks_step (l : List (List Int)) (m i : Nat) (h : i < l.length) :
    (rowMarks m (l.take i) ++ l.drop i).set i (marks (m + bulk (l.take i)) (l.getD i []).length) = rowMarks m (l.take (i + 1)) ++ l.drop (i + 1) := by
  have e : l.getD i [] = l[i] := by rw [List.getD_eq_getElem?_getD, List.getElem?_eq_getElem h]; rfl
  rw [e, List.take_succ_eq_append_getElem h, rowMarks_append, List.set_append_right _ _ (by rw [rowMarks_length, List.length_take]; omega), rowMarks_length, List.length_take, Nat.min_eq_left (Nat.le_of_lt h), Nat.sub_self]
  simp only [rowMarks, List.append_assoc, List.cons_append, List.nil_append]
  rw [show l.drop i = l[i] :: l.drop (i + 1) from List.drop_eq_getElem_cons h]
  rfl
set_option maxHeartbeats 4000000 in
set_option maxRecDepth 100000 in
theorem markIntSS_calls (P : Nat → Prop) (u : Value) (l : List (List Int)) (m : Nat) (w0 w : World) (hB : Below w0.heap.size w0 w) (hS : Kd.S (Kd.slice 3 (Kd.int .i64)) 22 w w0.heap.size P u l)
    (hb : bulk l ≤ 1152921504606846976) (hm : m ≤ 1152921504606846976) (hl : l.length ≤ 1152921504606846976) :
    Calls Tryd.prog 11 #[u, .int .i64 (m : Int)] w fun e w' => e = .returned (.int .i64 ((m + bulk l : Nat) : Int)) ∧ Kd.S (Kd.slice 3 (Kd.int .i64)) 22 w' w0.heap.size P u (rowMarks m l) ∧ Below w0.heap.size w0 w' ∧ Kept w w' P := by
  have HS := Aside0.mk hS
  have HB := Aside0.mk hB
  obtain ⟨A, c, hu⟩ := Kd.R_slice (Kd.S_R hS)
  subst hu
  clear hS hB
  go_enter Tryd.func11, Tryd.ntmps11
  go_wp2
  go_loopg [1, 5] l.length (fun kq v1 v5 wr => ∃ i j : Nat, i ≤ l.length ∧ l.length - i ≤ kq ∧ Aside0 (j = m + bulk (l.take i)) ∧ v1 = .int .i64 (j : Int) ∧ v5 = .int .i64 i ∧ Aside0 (Kd.S (Kd.slice 3 (Kd.int .i64)) 22 wr w0.heap.size P (.slice A l.length c) (rowMarks m (l.take i) ++ l.drop i)) ∧ Aside0 (Below w0.heap.size w0 wr) ∧ Aside0 (Kept w wr P))
  case atStart => exact ⟨0, m, Nat.zero_le _, by omega, ⟨by simp [bulk]⟩, rfl, rfl, HS, HB, ⟨Kept.refl _ _⟩⟩
  case round =>
    clear HS HB
    obtain ⟨i, j, hi, hg, HJ, rfl, rfl, HS, HB, HK⟩ := hrel
    by_cases hlt : i < l.length
    · have hltz : (i : Int) < (l.length : Int) := by omega
      have hx : (rowMarks m (l.take i) ++ l.drop i).getD (i : Int).toNat [] = l.getD i [] := by
        rw [Int.toNat_natCast, List.getD_eq_getElem?_getD, List.getElem?_append_right (by rw [rowMarks_length, List.length_take]; omega), rowMarks_length, List.length_take, Nat.min_eq_left hi, Nat.sub_self, List.getElem?_drop, Nat.add_zero, List.getD_eq_getElem?_getD]
      obtain ⟨g, cc, e0⟩ : ∃ g cc, (Value.slice A l.length c) = .slice (some ⟨g, 0, none⟩) l.length cc := by
        obtain ⟨g, cc, e0, _⟩ := Kd.R_form (Kd.S_R HS.out) (by simp [rowMarks_length]; omega)
        injection e0 with ea el ec
        exact ⟨g, c, by rw [ea]⟩
      injection e0 with ea _ ec
      subst ea ec
      obtain ⟨oki, cs, hcl, hM, hcc, hfr, hoki, hH⟩ := Kd.S_elem HS.out [] (i : Int) (by omega) (by omega)
      rw [hx] at hM
      obtain ⟨v, rfl, hR⟩ := hM
      obtain ⟨A1, c1, e1⟩ := Kd.R_slice hR
      subst e1
      have hx1 := hcc 0 _ rfl
      rw [show (i : Int).toNat * (Kd.slice 3 (Kd.int .i64)).sz + 0 = i from by show (i : Int).toNat * 1 + 0 = i; omega] at hx1
      have hlb : (l.getD i []).length + bulk (l.take i) ≤ bulk l := by
        have e : l.getD i [] = l[i] := by rw [List.getD_eq_getElem?_getD, List.getElem?_eq_getElem hlt]; rfl
        have h1 := bulk_append (l.take (i + 1)) (l.drop (i + 1))
        rw [List.take_append_drop, List.take_succ_eq_append_getElem hlt, bulk_append] at h1
        rw [e]
        simp only [bulk] at h1
        omega
      have hj := HJ.out
      obtain ⟨K, hK⟩ := markIntS_ev (l.getD i []) j (by omega) (by omega)
      have hst := rowMarks_step l m i hlt
      rw [← hj] at hst
      have hjj : j + (l.getD i []).length = m + bulk (l.take (i + 1)) := by
        have e : l.getD i [] = l[i] := by rw [List.getD_eq_getElem?_getD, List.getElem?_eq_getElem hlt]; rfl
        rw [List.take_succ_eq_append_getElem hlt, bulk_append, e, hj]
        simp only [bulk]
        omega
      have J1 := Aside0.mk hjj
      have ST := Aside0.mk hst
      have HK1 := Aside0.mk (hK K (Nat.le_refl _))
      have HR := Aside0.mk hR
      have HO := Aside0.mk hoki
      have HH := Aside0.mk hH
      clear hst hK hR hoki hH hjj hj hx hcl hcc hfr HJ
      generalize l.getD i [] = r at hx1 HR HK1 ST J1 HH hlb
      go_wp2_with (go_at_call 10; (with_reducible refine (laws_markIntS.calls K oki _ r (j : Int) _ _ w0 _ HB.out HR.out HK1.out).mono ?_); rintro e w6 ⟨rfl, hr6, hb6, hk6⟩; have R6 := Aside0.mk hr6; have B6 := Aside0.mk hb6; have K6 := Aside0.mk hk6; clear hr6 hb6 hk6)
      go_roundg (l.length - (i + 1))
      case measure => omega
      case rel =>
        refine ⟨i + 1, j + r.length, by omega, by omega, J1, rfl, by go_num, ⟨?_⟩, B6, ⟨HK.out.then_ K6.out (fun k hk => .inl (HO.out k hk).1)⟩⟩
        rw [← ST.out]
        have h1 := Kd.H_back (Kd.H_step HH.out (fun k _ hn hlt => K6.out.2 k hlt hn)) (x' := marks j r.length) (okp := oki) ⟨_, rfl, Kd.R_mono (Kd.R_tight rfl R6.out) (fun k hk => HR.out.1 k hk.symm)⟩ (fun _ h => h)
        rwa [Int.toNat_natCast] at h1
    · have : i = l.length := by omega
      subst this
      have hltz : ¬ (l.length : Int) < (l.length : Int) := by omega
      replace HS := Aside0.mk (show Kd.S _ _ _ _ _ _ (rowMarks m l) by have := HS.out; rwa [List.take_length, List.drop_length, List.append_nil] at this)
      go_wp2
      go_ret
      exact ⟨by have := HJ.out; rw [List.take_length] at this; rw [this]; rfl, HS.out, HB.out, HK.out⟩
end Go.Proofs.YthdoglkdcbghpaaDoor.Q

set_option linter.unusedVariables false
set_option linter.unusedSimpArgs false
namespace Go.Proofs.YthdoglkdcbghpaaDoor.Q
open Go.RowKit Go.Proofs.YthdoglkdcbghpaaDoor.F Go.Proofs.YthdoglkdcbghpaaDoorW.PrintWords Go.Proofs.YthdoglkdcbghpaaDoorW.PrintLast Go.Proofs.YthdoglkdcbghpaaDoorW.PrintMore
section
variable {w W : World} {L L' : List Ob} {ok ok' : Nat → Prop} {v v' : Value} {xs ys : List (List Int)}
theorem eqIntSS_st_same (h : St w W L) (hr : Reads (Kd.slice 3 (Kd.int .i64)) W v xs) (hr' : Reads (Kd.slice 3 (Kd.int .i64)) W v' xs) (hl : xs.length ≤ 1152921504606846976) (hb : ∀ r ∈ xs, r.length ≤ 1152921504606846976) :
    Calls Tryd.prog 8 #[v, v'] W fun e W' => e = .returned (.bool true) ∧ St w W' L := by
  obtain ⟨A, c, rfl, hc, hC⟩ := hr
  obtain ⟨A', c', rfl, hc', hC'⟩ := hr'
  obtain ⟨K, hK⟩ := eqIntSS_ev xs xs hl hb
  refine (laws_eqIntSS.calls K A c xs A' c' xs _ W hC hc hC' hc' (hK K (Nat.le_refl _))).mono ?_
  rintro e W' ⟨rfl, hd⟩
  exact ⟨by simp, h.drawn hd⟩
theorem markIntSS_st (h : St w W L) (i : Nat) (hi : L[i]? = some (obS (Kd.slice 3 (Kd.int .i64)) 22 w ok v xs)) (m : Nat) (hm : m ≤ 1152921504606846976) (hl : xs.length ≤ 1152921504606846976) (hb : bulk xs ≤ 1152921504606846976)
    (hL : L.set i (obS (Kd.slice 3 (Kd.int .i64)) 22 w ok v (rowMarks m xs)) = L') :
    Calls Tryd.prog 11 #[v, .int .i64 (m : Int)] W fun e W' => e = .returned (.int .i64 ((m + bulk xs : Nat) : Int)) ∧ St w W' L' := by
  have hR : Kd.S (Kd.slice 3 (Kd.int .i64)) 22 W w.heap.size ok v xs := h.get i hi
  refine (markIntSS_calls ok v xs m w W h.below hR hb hm hl).mono ?_
  rintro e W' ⟨rfl, hr, hb, hk⟩
  exact ⟨rfl, h.mark (o' := obS (Kd.slice 3 (Kd.int .i64)) 22 w ok v (rowMarks m xs)) i hi rfl firmS hb hk hr hL⟩
theorem heldIntSS_ev (l : List (List Int)) (m : Nat) (hl : l.length ≤ 1152921504606846976) (hb : bulk l ≤ 1152921504606846976) (hm : m ≤ 1152921504606846976) : Ev (fun k => laws_heldIntSS.f k (rowMarks m l) (m : Int)) ((m + bulk l : Nat) : Int) := by
  unfold laws_heldIntSS.f
  have key : ∀ (a b : List (List Int)), a ++ b = l → Ev (fun k => laws_heldIntSS.l0 k (rowMarks m l) ((m + bulk a : Nat) : Int) (a.length : Int)) ((m + bulk l : Nat) : Int) := by
    intro a b hab
    induction b generalizing a with
    | nil =>
      rw [List.append_nil] at hab
      subst hab
      refine Ev.step (fun k => by rw [laws_heldIntSS.l0]) ?_
      exact ev_neg (by rw [rowMarks_length]; omega) (ev_val rfl)
    | cons r b ih =>
      have hlen : a.length < l.length := by rw [← hab]; simp
      have hbl : bulk a + r.length ≤ bulk l := by rw [← hab, bulk_append]; simp only [bulk]; omega
      have hrow : rd_L1 (rowMarks m l) (a.length : Int) = marks (m + bulk a) r.length := by
        rw [rows_nat, ← hab, rowMarks_append, List.getD_eq_getElem?_getD, List.getElem?_append_right (by rw [rowMarks_length]; exact Nat.le_refl _), rowMarks_length, Nat.sub_self]
        rfl
      have := ih (a ++ [r]) (by rw [← hab]; simp)
      rw [bulk_append, List.length_append] at this
      simp only [bulk, List.length_cons, List.length_nil, Nat.add_zero, Nat.zero_add] at this
      refine Ev.step (fun k => by rw [laws_heldIntSS.l0]) ?_
      refine ev_pos (by rw [rowMarks_length]; omega) (ev_pos (by omega) ?_)
      rw [hrow]
      refine Ev.bind (heldIntS_ev (m + bulk a) r.length (by omega) (by omega)) (ev_neg (by omega) ?_)
      rw [wrap_succ (by omega), Nat.add_assoc]
      exact this
  have := key [] l rfl
  simpa [bulk] using this
theorem heldIntSS_st (h : St w W L) (xs : List (List Int)) (m : Nat) (hr : Reads (Kd.slice 3 (Kd.int .i64)) W v (rowMarks m xs)) (hm : m ≤ 1152921504606846976) (hl : xs.length ≤ 1152921504606846976) (hb : bulk xs ≤ 1152921504606846976) :
    Calls Tryd.prog 12 #[v, .int .i64 (m : Int)] W fun e W' => e = .returned (.int .i64 ((m + bulk xs : Nat) : Int)) ∧ St w W' L := by
  obtain ⟨A, c, rfl, hc, hC⟩ := hr
  obtain ⟨K, hK⟩ := heldIntSS_ev xs m hl hb hm
  refine (laws_heldIntSS.calls K A c _ (m : Int) _ W hC hc (hK K (Nat.le_refl _))).mono ?_
  rintro e W' ⟨rfl, hd⟩
  exact ⟨rfl, h.drawn hd⟩
end
end Go.Proofs.YthdoglkdcbghpaaDoor.Q

set_option linter.unusedVariables false
set_option linter.unusedSimpArgs false
namespace Go.Proofs.YthdoglkdcbghpaaDoor.Q
open Go.RowKit Go.Proofs.YthdoglkdcbghpaaDoor.F Go.Proofs.YthdoglkdcbghpaaDoorW.PrintWords Go.Proofs.YthdoglkdcbghpaaDoorW.PrintLast Go.Proofs.YthdoglkdcbghpaaDoorW.PrintMore
def swB (a b e : Int) : Prop := (if a < b then a else b) < e ∧ e ≤ (if a < b then b else a)
def swA (a b e : Int) : Prop := (if a < b then a else b) ≤ e ∧ e < (if a < b then b else a)
def fineW (w : List Int) (k : Nat) : Prop := (0 < k ∧ swB (rd w (k : Int)) (rd w ((k + 1 : Nat) : Int)) (rd w ((k - 1 : Nat) : Int))) ∨ (k + 2 < w.length ∧ swA (rd w (k : Int)) (rd w ((k + 1 : Nat) : Int)) (rd w ((k + 2 : Nat) : Int)))
def swapW (w : List Int) (k : Nat) : List Int := w.take k ++ [rd w ((k + 1 : Nat) : Int), rd w (k : Int)] ++ w.drop (k + 2)
theorem swB_iff {a b e : Int} : swB b a e ↔ (a < e ∧ e ≤ b) ∨ (b < e ∧ e ≤ a) := by
  unfold swB
  by_cases h : b < a
  · rw [if_pos h, if_pos h]; omega
  · rw [if_neg h, if_neg h]; omega
theorem swA_iff {a b e : Int} : swA a b e ↔ (a ≤ e ∧ e < b) ∨ (b ≤ e ∧ e < a) := by
  unfold swA
  by_cases h : a < b
  · rw [if_pos h, if_pos h]; omega
  · rw [if_neg h, if_neg h]; omega
theorem swapW_second (U V : List Int) (a b c : Int) : swapW (U ++ [a, b, c] ++ V) (U.length + 1) = U ++ [a, c, b] ++ V := by
  obtain ⟨_, h2, h3⟩ := rd_mid U V a b c
  unfold swapW
  rw [show U.length + 1 + 1 = U.length + 2 by omega, h2, h3]
  have e1 : (U ++ [a, b, c] ++ V).take (U.length + 1) = U ++ [a] := by
    rw [show U ++ [a, b, c] ++ V = (U ++ [a]) ++ (b :: c :: V) by simp, show U.length + 1 = (U ++ [a]).length by simp, List.take_left]
  have e2 : (U ++ [a, b, c] ++ V).drop (U.length + 1 + 2) = V := by
    rw [show U.length + 1 + 2 = (U ++ [a, b, c]).length by simp, List.drop_left]
  rw [e1, e2]; simp
theorem swapW_first (U V : List Int) (a b c : Int) : swapW (U ++ [a, b, c] ++ V) U.length = U ++ [b, a, c] ++ V := by
  obtain ⟨h1, h2, _⟩ := rd_mid U V a b c
  unfold swapW
  rw [h1, h2]
  have e1 : (U ++ [a, b, c] ++ V).take U.length = U := by rw [List.append_assoc, List.take_left]
  have e2 : (U ++ [a, b, c] ++ V).drop (U.length + 2) = c :: V := by
    rw [show U ++ [a, b, c] ++ V = (U ++ [a, b]) ++ (c :: V) by simp, show U.length + 2 = (U ++ [a, b]).length by simp, List.drop_left]
  rw [e1, e2]; simp
theorem waysS_iff {w x : List Int} : (∃ k, k + 1 < w.length ∧ fineW w k ∧ rd w (k : Int) ≠ rd w ((k + 1 : Nat) : Int) ∧ x = swapW w k) ↔ x ∈ waysI w := by
  rw [mem_waysI]
  constructor
  · rintro ⟨k, hk, hf, hne, rfl⟩
    rcases hf with ⟨h0, hs⟩ | ⟨h0, hs⟩
    · obtain ⟨i, rfl⟩ : ∃ i, k = i + 1 := ⟨k - 1, by omega⟩
      have hw := cut3 (w := w) (i := i) (by omega)
      have hlen : (w.take i).length = i := by rw [List.length_take]; omega
      refine ⟨w.take i, w.drop (i + 3), rd w (i : Int), rd w ((i + 1 : Nat) : Int), rd w ((i + 2 : Nat) : Int), hw, [rd w (i : Int), rd w ((i + 2 : Nat) : Int), rd w ((i + 1 : Nat) : Int)], mem_parts3.2 (.inl ⟨?_, rfl⟩), ?_⟩
      · exact swB_iff.1 hs
      · have h := swapW_second (w.take i) (w.drop (i + 3)) (rd w (i : Int)) (rd w ((i + 1 : Nat) : Int)) (rd w ((i + 2 : Nat) : Int))
        rw [← hw, hlen] at h
        exact h
    · have hw := cut3 (w := w) (i := k) (by omega)
      have hlen : (w.take k).length = k := by rw [List.length_take]; omega
      refine ⟨w.take k, w.drop (k + 3), rd w (k : Int), rd w ((k + 1 : Nat) : Int), rd w ((k + 2 : Nat) : Int), hw, [rd w ((k + 1 : Nat) : Int), rd w (k : Int), rd w ((k + 2 : Nat) : Int)], mem_parts3.2 (.inr ⟨?_, rfl⟩), ?_⟩
      · exact swA_iff.1 hs
      · have h := swapW_first (w.take k) (w.drop (k + 3)) (rd w (k : Int)) (rd w ((k + 1 : Nat) : Int)) (rd w ((k + 2 : Nat) : Int))
        rw [← hw, hlen] at h
        exact h
  · rintro ⟨U, V, a, b, c, rfl, p, hp, rfl⟩
    obtain ⟨h1, h2, h3⟩ := rd_mid U V a b c
    rcases mem_parts3.1 hp with ⟨h, rfl⟩ | ⟨h, rfl⟩
    · refine ⟨U.length + 1, by simp; omega, .inl ⟨by omega, ?_⟩, ?_, (swapW_second U V a b c).symm⟩
      · rw [show U.length + 1 + 1 = U.length + 2 by omega, show U.length + 1 - 1 = U.length by omega, h1, h2, h3]
        exact swB_iff.2 h
      · rw [show U.length + 1 + 1 = U.length + 2 by omega, h2, h3]
        omega
    · refine ⟨U.length, by simp, .inr ⟨by simp, ?_⟩, ?_, (swapW_first U V a b c).symm⟩
      · rw [h1, h2, h3]
        exact swA_iff.2 h
      · rw [h1, h2]
        omega
end Go.Proofs.YthdoglkdcbghpaaDoor.Q

set_option linter.unusedVariables false
set_option linter.unusedSimpArgs false
namespace Go.Proofs.YthdoglkdcbghpaaDoor.Q
open Go.RowKit Go.Proofs.YthdoglkdcbghpaaDoor.F Go.Proofs.YthdoglkdcbghpaaDoorW.PrintWords Go.Proofs.YthdoglkdcbghpaaDoorW.PrintLast Go.Proofs.YthdoglkdcbghpaaDoorW.PrintMore
section
variable {w W : World} {L : List Ob}
/-- a fresh literal of no whole number -/
theorem St.nilAt (h : St w W L) : St w (W.alloc (.cells #[] 3 (0, 0))) (obR (Kd.int .i64) 3 w (fun k => k = W.heap.size) (.slice (some ⟨W.heap.size, 0, none⟩) 0 0) [] :: L) := by
  have e1 : (W.alloc (.cells #[] 3 (0, 0))).heap.size = W.heap.size + 1 := by show (W.heap.push _).size = _; exact Array.size_push ..
  refine h.add (o := obR (Kd.int .i64) 3 w (fun k => k = W.heap.size) (.slice (some ⟨W.heap.size, 0, none⟩) 0 0) []) (below_alloc (Below.refl _ _) _) (fun k hk => ?_) ?_ firmR
  · have h1 : k = W.heap.size := hk
    omega
  · refine ⟨fun k hk => ?_, [], ⟨rfl, .inr ⟨W.heap.size, 0, #[], rfl, h.below.size, ?_, Nat.le_refl _, by unfold maxLen; omega, rfl, rfl⟩⟩, Reps.none _ _⟩
    · simpa [Value.ownBlock] using hk.symm
    · show (W.heap.push _)[W.heap.size]? = _
      exact Array.getElem?_push_size
theorem St.nilAtE (h : St w W L) {b : Nat} (hb : b = W.heap.size) : St w (W.alloc (.cells #[] 3 (0, 0))) (obR (Kd.int .i64) 3 w (fun k => k = b) (.slice (some ⟨b, 0, none⟩) 0 0) [] :: L) := by
  subst hb
  exact h.nilAt
theorem St.boxE (h : St w W L) (cs : Array Value) (t : Nat) {b : Nat} (hb : b = W.heap.size) : St w (W.alloc (.cells cs t (0, 0))) (obB b cs t :: L) := by
  subst hb
  exact St.box h cs t
end
section
variable {ops : Array Oper} {oi : Oper} {a : Act} {Q : Exit → Act → World → Prop} {Kc : Act → World → Prop} {w W : World} {L : List Ob} {ok : Nat → Prop} {v : Value} {xs ys : List Int}
/-- append(v, ys...) of whole numbers, in a region that draws -/
theorem St.putInts_step {A : Option Addr} {m cA : Nat} (hw : Region.wanted oi (yielded ops a.tmps) = true) (s y : Operand) (ho : oi.op = .call { callee := .builtin .append, args := #[s, y], argTypes := #[22, 22] })
    (h : St w W L) (n : Nat) (hn : L[n]? = some (obR (Kd.int .i64) 3 w ok v xs)) (hs : a.eval s = v) (hx : a.eval y = .slice A m cA) (HR : Kd.C (Kd.int .i64) W A m ys) (hl : (xs.length + m) * 8 ≤ 140737488355328)
    (hk : ∀ v1 w1 ok1, St w w1 (L.set n (obR (Kd.int .i64) 3 w ok1 v1 (xs ++ ys))) → Kc (a.put oi.dst v1) w1) :
    if Region.wanted oi (yielded ops a.tmps) = true then Oper.wp Tryd.prog oi a W Kc Q else Kc (a.put oi.dst undef) W := by
  have hR : Kd.R (Kd.int .i64) 3 W w.heap.size ok v xs := h.get n hn
  refine Kd.R_append_rows_step (Kd.int .i64) (Rr := (Kd.int .i64).K W) (w0 := w) w.heap.size hw s y 22 3 (.int .i64 0) 8 ho Tryd.underlying22 info3 rfl (by decide) (by omega) v xs ys A m cA (fun k => ok k ∨ W.heap.size ≤ k) (fun _ => False) hs hx (Kd.R_mono hR (fun k hk => .inl hk)) HR (fun _ _ h => h) (fun _ h => h.elim) (fun _ h => .inr h) h.below h.below.size hl ?_
  intro v1 w1 hR1 hB hg _
  exact hk v1 w1 _ (St.redo1 (o' := obR (Kd.int .i64) 3 w (fun k => (ok k ∨ W.heap.size ≤ k) ∧ w.heap.size ≤ k ∧ k < w1.heap.size) v1 (xs ++ ys)) h n hn ⟨hg.size, fun k hk hne => hg.block k hk (fun e2 => hne (hR.1 k e2.symm))⟩ hB ⟨fun k hk => hk, Kd.R_mono (Kd.R_bound hR1) (fun k hk => ⟨hk.1, hk.2.1, hk.2.2.1⟩), firmR⟩)
end
end Go.Proofs.YthdoglkdcbghpaaDoor.Q

set_option linter.unusedVariables false
set_option linter.unusedSimpArgs false
namespace Go.Proofs.YthdoglkdcbghpaaDoor.Q
open Go.RowKit Go.Proofs.YthdoglkdcbghpaaDoor.F Go.Proofs.YthdoglkdcbghpaaDoorW.PrintWords Go.Proofs.YthdoglkdcbghpaaDoorW.PrintLast Go.Proofs.YthdoglkdcbghpaaDoorW.PrintMore
def putAt (L : List (List Int)) (w : List Int) (i : Nat) : List (List Int) := if 0 < i ∧ L[i - 1]? = some w then L else L.take i ++ w :: L.drop i
theorem putAt_spec {L : List (List Int)} {w : List Int} {i : Nat} (hL : OrdW L) (hi : i ≤ L.length) (hB : ∀ b ∈ L.drop i, lexB w b = true) (hA : ∀ x, 0 < i → L[i - 1]? = some x → lexB w x = false) :
    OrdW (putAt L w i) ∧ ∀ x, x ∈ putAt L w i ↔ x ∈ L ∨ x = w := by
  unfold putAt
  by_cases h : 0 < i ∧ L[i - 1]? = some w
  · rw [if_pos h]
    exact ⟨hL, fun x => ⟨.inl, fun g => g.elim id (fun e => by rw [e]; exact List.mem_of_getElem? h.2)⟩⟩
  · rw [if_neg h]
    have hL2 : OrdW (L.take i ++ L.drop i) := by rw [List.take_append_drop]; exact hL
    refine ⟨ordW_put hL2 ?_ hB, fun x => ?_⟩
    · intro a ha
      by_cases h0 : 0 < i
      · obtain ⟨j, rfl⟩ : ∃ j, i = j + 1 := ⟨i - 1, by omega⟩
        have hj : j < L.length := by omega
        have hg : L[j]? = some L[j] := List.getElem?_eq_getElem hj
        have h1 := hA L[j] (by omega) (by rw [Nat.add_sub_cancel]; exact hg)
        have h2 : lexB L[j] w = true := by
          cases g : lexB L[j] w with
          | true => rfl
          | false => exact absurd ⟨h0, by rw [Nat.add_sub_cancel, hg, lexB_tri g h1]⟩ h
        have e : L.take (j + 1) = L.take j ++ [L[j]] := List.take_succ_eq_append_getElem hj
        rw [e] at ha hL2
        exact ordW_below (List.pairwise_append.1 hL2).1 h2 a ha
      · obtain rfl : i = 0 := by omega
        simp at ha
    · have e : x ∈ L ↔ x ∈ L.take i ∨ x ∈ L.drop i := by rw [← List.mem_append, List.take_append_drop]
      rw [List.mem_append, List.mem_cons, e]
      constructor
      · rintro (h | h | h)
        · exact .inl (.inl h)
        · exact .inr h
        · exact .inl (.inr h)
      · rintro ((h | h) | h)
        · exact .inl h
        · exact .inr (.inr h)
        · exact .inr (.inl h)
end Go.Proofs.YthdoglkdcbghpaaDoor.Q

set_option linter.unusedVariables false
set_option linter.unusedSimpArgs false
namespace Go.Proofs.YthdoglkdcbghpaaDoor.Q
open Go.RowKit Go.Proofs.YthdoglkdcbghpaaDoor.F Go.Proofs.YthdoglkdcbghpaaDoorW.PrintWords Go.Proofs.YthdoglkdcbghpaaDoorW.PrintLast Go.Proofs.YthdoglkdcbghpaaDoorW.PrintMore
section
variable {w W : World} {L : List Ob} {v v' : Value} {x y : List Int}
theorem before_st (h : St w W L) (hr : Reads (Kd.int .i64) W v x) (hr' : Reads (Kd.int .i64) W v' y) (hl : x.length ≤ 1048576) (hl' : y.length ≤ 1048576) {b : Bool} (hb : lexB x y = b) :
    Calls Tryd.prog 30 #[v, v'] W fun e W' => e = .returned (.bool b) ∧ St w W' L := by
  obtain ⟨A, c, rfl, hc, hC⟩ := hr
  obtain ⟨A', c', rfl, hc', hC'⟩ := hr'
  obtain ⟨K, hK⟩ := ev_eq (spec_l12Before_ev x y hl hl') hb
  refine (spec_l12Before.calls K A c x A' c' y _ W hC hc hC' hc' (hK K (Nat.le_refl _))).mono ?_
  rintro e W' ⟨rfl, hd⟩
  exact ⟨rfl, h.drawn hd⟩
theorem same_st (h : St w W L) (hr : Reads (Kd.int .i64) W v x) (hr' : Reads (Kd.int .i64) W v' y) (hl : x.length ≤ 1048576) {b : Bool} (hb : decide (x = y) = b) :
    Calls Tryd.prog 31 #[v, v'] W fun e W' => e = .returned (.bool b) ∧ St w W' L := by
  obtain ⟨A, c, rfl, hc, hC⟩ := hr
  obtain ⟨A', c', rfl, hc', hC'⟩ := hr'
  obtain ⟨K, hK⟩ := ev_eq (spec_l2Same_ev x y hl) hb
  refine (spec_l2Same.calls K A c x A' c' y _ W hC hc hC' hc' (hK K (Nat.le_refl _))).mono ?_
  rintro e W' ⟨rfl, hd⟩
  exact ⟨rfl, h.drawn hd⟩
end
section
variable {w W : World} {L : List Ob} {ok : Nat → Prop} {v u : Value} {xs : List (List Int)} {y : List Int}
set_option maxHeartbeats 16000000 in
set_option maxRecDepth 100000 in
theorem put_st (h : St w W (obS (Kd.slice 3 (Kd.int .i64)) 22 w ok v xs :: L)) (hO : OrdW xs) (hu : ∀ W', St w W' L → Reads (Kd.int .i64) W' u y) (hx : ∀ x ∈ xs, x.length ≤ 1048576) (hy : y.length ≤ 1048576) (hn : xs.length ≤ 1048576) :
    Calls Tryd.prog 17 #[v, u] W fun e W' => ∃ v1 ok1 ys, e = .returned v1 ∧ OrdW ys ∧ ys.length ≤ xs.length + 1 ∧ (∀ x, x ∈ ys ↔ x ∈ xs ∨ x = y) ∧ St w W' (obS (Kd.slice 3 (Kd.int .i64)) 22 w ok1 v1 ys :: L) := by
  obtain ⟨ps, ok1, ok2, hr1, hk1, hS⟩ := h.split 0
  obtain ⟨A, c, e0, hc, _⟩ := St.readS0 hS 0 rfl
  have hpl : ps.length = xs.length := by rw [← hr1, List.length_map]
  obtain ⟨N, hN⟩ : ∃ N, N = ps.length := ⟨_, rfl⟩
  rw [← hN] at e0 hc
  subst e0
  have H0 := Aside0.mk hS
  have HO := Aside0.mk hO
  have HU := Aside0.mk hu
  have HXL := Aside0.mk (fun p (hp : p ∈ ps) => hx p.r (by rw [← hr1]; exact List.mem_map_of_mem hp))
  have HR1 := Aside0.mk hr1
  have HK1 := Aside0.mk hk1
  have HN := Aside0.mk hN
  have hN2 : N ≤ 1048576 := by omega
  obtain ⟨Au, cu, rfl, _, _⟩ := hu W (St.drop_ (St.drop_ hS))
  clear hx hr1 hk1 hS h hO hu hN hpl
  go_enter Tryd.func17, Tryd.ntmps17
  go_wp2
  go_loopg [5] N (fun kq v5 wr => ∃ i : Nat, i ≤ N ∧ i ≤ kq ∧ v5 = .int .i64 (i : Int) ∧ Aside0 (∀ b ∈ ps.drop i, lexB y b.r = true) ∧ Aside0 (St w wr (obR spK 22 w ok1 (.slice A N c) ps :: obP w ok2 ps :: L)))
  case atStart => exact ⟨N, Nat.le_refl _, Nat.le_refl _, rfl, ⟨fun b hb => by rw [HN.out, List.drop_length] at hb; cases hb⟩, H0⟩
  case round =>
    clear H0
    obtain ⟨i, hi, hg, rfl, HB, HS⟩ := hrel
    go_upto_region 2 with fail
    go_cut [19] (fun s19 wx => ∃ b : Bool, s19 = .bool b ∧ Aside0 (b = true → 0 < i ∧ ∀ p, ps[i - 1]? = some p → lexB y p.r = true) ∧ Aside0 (b = false → ∀ p, 0 < i → ps[i - 1]? = some p → lexB y p.r = false) ∧ Aside0 (St w wx (obR spK 22 w ok1 (.slice A N c) ps :: obP w ok2 ps :: L)))
    case first =>
      by_cases h0 : 0 < i
      · have hz : (0 : Int) < (i : Int) := by omega
        obtain ⟨j, rfl⟩ : ∃ j, i = j + 1 := ⟨i - 1, by omega⟩
        have ei : IntKind.i64.wrap (((j + 1 : Nat) : Int) - 1) = (j : Int) := by rw [IntWalk.i64_in _ (by omega)]; omega
        have hj0 : (0 : Int) ≤ (j : Int) := by omega
        have hjz : (j : Int) < (N : Int) := by omega
        have hl1 : j < ps.length := by rw [← HN.out]; omega
        obtain ⟨g, c1, e1, _, _⟩ := St.spine HS.out 0 rfl (by omega)
        rw [← HN.out] at e1
        injection e1 with e1 _ e2
        subst e1 e2
        obtain ⟨p, hp⟩ : ∃ p, ps[j] = p := ⟨_, rfl⟩
        have HPM := Aside0.mk (show p ∈ ps by rw [← hp]; exact List.getElem_mem hl1)
        have hx := (St.cellP HS.out 0 rfl j hl1).1
        have HP := Aside0.mk (show ps[j + 1 - 1]? = some p by rw [Nat.add_sub_cancel, List.getElem?_eq_getElem hl1, hp])
        rw [hp] at hx
        clear hp
        obtain ⟨pk, pA, pc, pr⟩ := p
        change wr.cell? ⟨g, j, none⟩ = some (.slice pA pr.length pc) at hx
        obtain ⟨b, hb⟩ : ∃ b, lexB y pr = b := ⟨_, rfl⟩
        have HBB := Aside0.mk hb
        clear hb
        go_wp2_with (first | (go_at_call 30; refine (before_st HS.out (HU.out _ (St.drop_ (St.drop_ HS.out))) (St.readP HS.out 1 rfl HPM.out) hy (HXL.out _ HPM.out) HBB.out).mono ?_; rintro e w4 ⟨rfl, h_⟩; have H4 := Aside0.mk h_; clear h_))
        go_meet
        case rel => exact ⟨b, rfl, ⟨fun e => ⟨by omega, fun q hq => by rw [HP.out] at hq; cases hq; exact HBB.out.trans e⟩⟩, ⟨fun e q _ hq => by rw [HP.out] at hq; cases hq; exact HBB.out.trans e⟩, H4⟩
      · have hz : ¬ (0 : Int) < (i : Int) := by omega
        go_wp2
        go_meet
        case rel => exact ⟨false, rfl, ⟨fun e => by cases e⟩, ⟨fun _ _ h => absurd h h0⟩, HS⟩
    case rest =>
      clear HS
      obtain ⟨b, rfl, HT, HF, HS⟩ := hcut
      cases b with
      | true =>
        obtain ⟨h0, hlt⟩ := HT.out rfl
        obtain ⟨j, rfl⟩ : ∃ j, i = j + 1 := ⟨i - 1, by omega⟩
        have ei : IntKind.i64.wrap (((j + 1 : Nat) : Int) - 1) = (j : Int) := by rw [IntWalk.i64_in _ (by omega)]; omega
        have hl1 : j < ps.length := by rw [← HN.out]; omega
        have HB2 : Aside0 (∀ b ∈ ps.drop j, lexB y b.r = true) := ⟨fun b hb => by
          rw [List.drop_eq_getElem_cons hl1] at hb
          rcases List.mem_cons.1 hb with e | hb
          · rw [e]; exact hlt _ (by rw [Nat.add_sub_cancel, List.getElem?_eq_getElem hl1])
          · exact HB.out b hb⟩
        clear hlt
        go_wp2
        go_roundg j
        case measure => omega
        case rel => exact ⟨j, by omega, Nat.le_refl _, rfl, HB2, HS⟩
      | false =>
        clear HT hg
        have hlo : i ≤ xs.length := by rw [← HR1.out, List.length_map, ← HN.out]; exact hi
        have HPut : Aside0 (OrdW (putAt xs y i) ∧ ∀ x, x ∈ putAt xs y i ↔ x ∈ xs ∨ x = y) := ⟨by
          refine putAt_spec HO.out hlo (fun b hb => ?_) (fun x h0 hx => ?_)
          · rw [← HR1.out, ← List.map_drop] at hb
            obtain ⟨q, hq, rfl⟩ := List.mem_map.1 hb
            exact HB.out q hq
          · rw [← HR1.out, List.getElem?_map] at hx
            obtain ⟨q, hq, rfl⟩ := Option.map_eq_some_iff.1 hx
            exact HF.out rfl q h0 hq⟩
        clear hlo HB HF
        go_upto_region 4 with fail
        go_cut [32] (fun s32 wx => ∃ b : Bool, s32 = .bool b ∧ Aside0 (b = true → 0 < i ∧ xs[i - 1]? = some y) ∧ Aside0 (b = false → ¬ (0 < i ∧ xs[i - 1]? = some y)) ∧ Aside0 (St w wx (obR spK 22 w ok1 (.slice A N c) ps :: obP w ok2 ps :: L)))
        case first =>
          by_cases h0 : 0 < i
          · have hz : (0 : Int) < (i : Int) := by omega
            obtain ⟨j, rfl⟩ : ∃ j, i = j + 1 := ⟨i - 1, by omega⟩
            have ei : IntKind.i64.wrap (((j + 1 : Nat) : Int) - 1) = (j : Int) := by rw [IntWalk.i64_in _ (by omega)]; omega
            have hj0 : (0 : Int) ≤ (j : Int) := by omega
            have hjz : (j : Int) < (N : Int) := by omega
            have hl1 : j < ps.length := by rw [← HN.out]; omega
            obtain ⟨g, c1, e1, _, _⟩ := St.spine HS.out 0 rfl (by omega)
            rw [← HN.out] at e1
            injection e1 with e1 _ e2
            subst e1 e2
            obtain ⟨p, hp⟩ : ∃ p, ps[j] = p := ⟨_, rfl⟩
            have HPM := Aside0.mk (show p ∈ ps by rw [← hp]; exact List.getElem_mem hl1)
            have hx := (St.cellP HS.out 0 rfl j hl1).1
            have HP := Aside0.mk (show xs[j + 1 - 1]? = some p.r by rw [Nat.add_sub_cancel, ← HR1.out, List.getElem?_map, List.getElem?_eq_getElem hl1, hp]; rfl)
            rw [hp] at hx
            clear hp
            obtain ⟨pk, pA, pc, pr⟩ := p
            change wc.cell? ⟨g, j, none⟩ = some (.slice pA pr.length pc) at hx
            obtain ⟨b, hb⟩ : ∃ b, decide (pr = y) = b := ⟨_, rfl⟩
            have HBB := Aside0.mk hb
            clear hb
            go_wp2_with (first | (go_at_call 31; refine (same_st HS.out (St.readP HS.out 1 rfl HPM.out) (HU.out _ (St.drop_ (St.drop_ HS.out))) (HXL.out _ HPM.out) HBB.out).mono ?_; rintro e w4 ⟨rfl, h_⟩; have H4 := Aside0.mk h_; clear h_))
            go_meet
            case rel => exact ⟨b, rfl, ⟨fun e => ⟨by omega, by rw [HP.out, of_decide_eq_true (HBB.out.trans e)]⟩⟩, ⟨fun e h => by
              rw [HP.out] at h
              exact of_decide_eq_false (HBB.out.trans e) (Option.some.inj h.2)⟩, H4⟩
          · have hz : ¬ (0 : Int) < (i : Int) := by omega
            go_wp2
            go_meet
            case rel => exact ⟨false, rfl, ⟨fun e => by cases e⟩, ⟨fun _ h => absurd h.1 h0⟩, HS⟩
        case rest =>
          clear HS
          obtain ⟨b, rfl, HT, HF, HS⟩ := hcut
          cases b with
          | true =>
            have HEq : Aside0 (putAt xs y i = xs) := ⟨by unfold putAt; rw [if_pos (HT.out rfl)]⟩
            obtain ⟨ok3, h_⟩ := St.join HS.out (fun _ h => h) (by rw [HK1.out]; exact marks_nodup _ _)
            have H5 := Aside0.mk h_
            clear h_ HT HF
            go_wp2
            go_ret
            exact ⟨_, ok3, putAt xs y i, rfl, HPut.out.1, by rw [HEq.out]; omega, HPut.out.2, by rw [HEq.out, ← HR1.out]; exact H5.out⟩
          | false =>
            have HEq : Aside0 (putAt xs y i = xs.take i ++ y :: xs.drop i) := ⟨by unfold putAt; rw [if_neg (HF.out rfl)]⟩
            clear HT HF
            have hiP : i ≤ ps.length := by rw [← HN.out]; exact hi
            obtain ⟨A', hA'⟩ : ∃ A', (if c = i then A else A.map (·.add i)) = A' := ⟨_, rfl⟩
            have hcut := cut_rows A N c i hi
            have htake := take_rows0 A N c i hi hc
            rw [hA'] at hcut
            obtain ⟨Z, hZ⟩ : ∃ Z, Z = ps.drop i := ⟨_, rfl⟩
            obtain ⟨Y, hY⟩ : ∃ Y, Y = ps.take i := ⟨_, rfl⟩
            have hzl : Z.length = N - i := by rw [hZ, List.length_drop, ← HN.out]
            have hd1 : Z.length ≤ 1048576 := by omega
            have HT1 : Aside0 (Y.length = i) := ⟨by rw [hY, List.length_take]; omega⟩
            have HZ := Aside0.mk hZ
            have HY := Aside0.mk hY
            have HC' : Aside0 (∀ W', Kd.C spK W' A N ps → Kd.C spK W' A' (N - i) Z) := ⟨fun W' h => by
              have h1 := h
              rw [HN.out] at h1
              have h2 := Kd.C_drop (c := c) h1 hiP (by rw [← HN.out]; exact hc)
              rw [show i * spK.sz = i from Nat.mul_one i, hA', ← hZ, hzl] at h2
              exact h2⟩
            clear hA' hZ hY hzl
            go_wp2_with (first
              | ((with_reducible refine gate_dst (N := 34) rfl ?_); refine St.nilP (N := 34) rfl rfl ?hr HS.out ?_; (case hr => first | (go_simp; done) | (go_simp; rfl)); intro g1 w1 ok3 h_; have H1 := Aside0.mk h_; clear h_)
              | (at_builtin; refine St.manyP rfl (.tmp 34) (.tmp 37) rfl H1.out 0 rfl rfl rfl (HC'.out _ (by have := (St.readS0 H1.out 1 rfl); obtain ⟨A5, c5, e5, _, h5⟩ := this; injection e5 with e5 _ _; rw [e5, HN.out]; exact h5)) (by simp only [List.length_nil]; omega) ?_; intro v2 w2 ok4 h_; have H2 : Aside0 (St w w2 (obR spK 22 w ok4 v2 Z :: obR spK 22 w ok1 (.slice A N c) ps :: obP w ok2 ps :: L)) := ⟨h_⟩; clear h_; obtain ⟨A2, c2, rfl, _, _⟩ := St.readS0 H2.out 0 rfl))
            have HD := Aside0.mk (H2.out.quiet (below_drew (Below.refl _ _)))
            clear H1 HS hcut HC'
            go_region_held3 (fun _ => True) (first | trivial)
              (first
              | (refine St.putInts_step (by rfl) (.tmp 42) (.tmp 43) (by rfl) (St.nilAtE HD.out (b := w2.heap.size) rfl) 0 rfl (by rfl) (by rfl) (Reads.C (HU.out _ (St.drop_ (St.drop_ (St.drop_ (St.drop_ (St.nilAtE HD.out (b := w2.heap.size) rfl))))))).2 (by simp only [List.length_nil]; omega) ?_; intro v9 w9 ok9 h_; have H9 := Aside0.mk h_; clear h_; obtain ⟨A9, c9, rfl, _, _⟩ := H9.out.readR 0 rfl; have H10 : Aside0 (St w w9 (obR (Kd.int .i64) 3 w ok9 (.slice A9 y.length c9) y :: obR spK 22 w ok4 (.slice A2 Z.length c2) Z :: obR spK 22 w ok1 (.slice A i c) Y :: obP w ok2 ps :: L)) := ⟨by have h5 := St.cutP H9.out 2 rfl i hiP HY.out.symm; rw [HT1.out] at h5; exact h5⟩)
              | (refine St.addP_step (by rfl) (.tmp 41) (.tmp 45) (by rfl) ⟨xs.length + 0, A9, c9, y⟩ H10.out 2 rfl (by rfl) (by rfl) (by rw [HT1.out]; omega) ?_; intro v11 w11 ok11 h_; have H11 := Aside0.mk h_; clear h_)
              | (refine St.manyP_step (by rfl) (.tmp 46) (.tmp 47) (by rfl) H11.out 2 rfl (by rfl) (by rfl) (by obtain ⟨A5, c5, e5, _, h5⟩ := St.readS0 H11.out 1 rfl; injection e5 with e5 _ _; rw [e5]; exact h5) (by rw [List.length_append, HT1.out]; simp only [List.length_cons, List.length_nil]; omega) ?_; intro v12 w12 ok12 h_; have H12 := Aside0.mk h_; clear h_))
            have HJ : Aside0 (∃ ok6, St w w12 (obS (Kd.slice 3 (Kd.int .i64)) 22 w ok6 v12 (putAt xs y i) :: L)) := ⟨by
              have g1 := St.pool (St.less H12.out (.cons_cons _ (.cons _ (List.Sublist.refl _)))) (xs.length + 0)
              obtain ⟨ok7, g2⟩ := St.pour (St.perm_ g1 (List.Perm.cons _ (List.Perm.swap _ _ _)))
              have g3 := St.perm_ g2 (List.Perm.swap _ _ _)
              obtain ⟨ok8, g4⟩ := St.join g3 (fun p hp => by
                rcases List.mem_append.1 hp with hp | hp
                · rcases List.mem_append.1 hp with hp | hp
                  · rw [HY.out] at hp
                    exact List.mem_append_right _ (List.mem_of_mem_take hp)
                  · rw [List.mem_singleton.1 hp]
                    exact List.mem_append_left _ List.mem_cons_self
                · rw [HZ.out] at hp
                  exact List.mem_append_right _ (List.mem_of_mem_drop hp)) (by
                have e1 : (Y ++ [Rw.mk (xs.length + 0) A9 c9 y] ++ Z).Perm (Rw.mk (xs.length + 0) A9 c9 y :: ps) := by
                  have := List.perm_middle (a := Rw.mk (xs.length + 0) A9 c9 y) (l₁ := Y) (l₂ := Z)
                  rw [HY.out, HZ.out, List.take_append_drop] at this
                  rw [HY.out, HZ.out, List.append_assoc]
                  exact this
                refine ((e1.map Rw.k).pairwise_iff (fun h => Ne.symm h)).2 ?_
                refine List.pairwise_cons.2 ⟨fun a ha e => ?_, by rw [HK1.out]; exact marks_nodup _ _⟩
                rw [HK1.out] at ha
                obtain ⟨q, hq, hq2⟩ := List.mem_map.1 ha
                have := List.mem_range.1 hq
                have e2 : (Rw.mk (xs.length + 0) A9 c9 y).k = xs.length + 0 := rfl
                rw [e2] at e
                omega)
              refine ⟨ok8, ?_⟩
              have e3 : (Y ++ [Rw.mk (xs.length + 0) A9 c9 y] ++ Z).map Rw.r = putAt xs y i := by
                rw [HEq.out, List.map_append, List.map_append, HY.out, HZ.out, List.map_take, List.map_drop, HR1.out, List.append_assoc]
                rfl
              rw [← e3]
              exact g4⟩
            go_wp2
            go_ret
            obtain ⟨ok6, h6⟩ := HJ.out
            exact ⟨_, ok6, putAt xs y i, rfl, HPut.out.1, by rw [HEq.out, List.length_append, List.length_cons, List.length_take, List.length_drop]; omega, HPut.out.2, h6⟩
end
end Go.Proofs.YthdoglkdcbghpaaDoor.Q

set_option linter.unusedVariables false
set_option linter.unusedSimpArgs false
namespace Go.Proofs.YthdoglkdcbghpaaDoor.Q
open Go.RowKit Go.Proofs.YthdoglkdcbghpaaDoor.F Go.Proofs.YthdoglkdcbghpaaDoorW.PrintWords Go.Proofs.YthdoglkdcbghpaaDoorW.PrintLast Go.Proofs.YthdoglkdcbghpaaDoorW.PrintMore
theorem quiet0 {f : Nat} {args : Array Value} {w : World} {n : Nat} {v : Value} (h : Calls Tryd.prog f args (w.drewN n) fun e w' => e = .returned v ∧ Drawn0 (w.drewN n) w') : Calls Tryd.prog f args (w.drewN n) fun e w'' => e = .returned v ∧ ∃ m, w'' = w.drewN m :=
  Calls.quiet_of (h.mono fun _ _ ⟨he, ⟨hd⟩⟩ => ⟨he, hd⟩)
theorem swapB_eq (a b e : Int) : ∃ q, spec_l12Swap.f a b e true = some q ∧ (q = true ↔ swB a b e) := by
  unfold spec_l12Swap.f spec_l1Min.f spec_l1Max.f swB
  by_cases h : a < b
  · by_cases h2 : a < e
    · exact ⟨decide (e ≤ b), by simp [h, h2, show ¬ a > b by omega], by simp [h, h2]⟩
    · exact ⟨false, by simp [h, h2, show ¬ a > b by omega], by simp [h, h2]⟩
  · by_cases h2 : b < e
    · refine ⟨decide (e ≤ a), ?_, by simp [h, h2]⟩
      by_cases h3 : a > b
      · simp [h, h2, h3]
      · have : a = b := by omega
        subst this; simp [h2]
    · refine ⟨false, ?_, by simp [h, h2]⟩
      by_cases h3 : a > b
      · simp [h, h2, h3]
      · have : a = b := by omega
        subst this; simp [h2]
theorem swapA_eq (a b e : Int) : ∃ q, spec_l12Swap.f a b e false = some q ∧ (q = true ↔ swA a b e) := by
  unfold spec_l12Swap.f spec_l1Min.f spec_l1Max.f swA
  by_cases h : a < b
  · by_cases h2 : a ≤ e
    · exact ⟨decide (e < b), by simp [h, h2, show ¬ a > b by omega], by simp [h, h2]⟩
    · exact ⟨false, by simp [h, h2, show ¬ a > b by omega], by simp [h, h2]⟩
  · by_cases h2 : b ≤ e
    · refine ⟨decide (e < a), ?_, by simp [h, h2]⟩
      by_cases h3 : a > b
      · simp [h, h2, h3]
      · have : a = b := by omega
        subst this; simp [h2]
    · refine ⟨false, ?_, by simp [h, h2]⟩
      by_cases h3 : a > b
      · simp [h, h2, h3]
      · have : a = b := by omega
        subst this; simp [h2]
section
variable {w W : World} {L : List Ob} {ok : Nat → Prop} {xs : List Int} {g c m t : Nat}
/-- a number is stored into a row -/
theorem St.storeI (h : St w W L) (n : Nat) (hn : L[n]? = some (obR (Kd.int .i64) t w ok (.slice (some ⟨g, 0, none⟩) m c) xs)) (i : Nat) (x : Int) : St w (W.setCell ⟨g, i, none⟩ (.int .i64 x)) (L.set n (obR (Kd.int .i64) t w ok (.slice (some ⟨g, 0, none⟩) m c) (xs.set i x))) := by
  have hR : Kd.R (Kd.int .i64) t W w.heap.size ok (.slice (some ⟨g, 0, none⟩) m c) xs := h.get n hn
  have hw := (h.own _ (List.mem_of_getElem? hn)).1
  have hg : ok g := hR.1 g (by simp [Value.ownBlock])
  have h1 := Kd.R_putg hR (i : Int) x
  rw [Int.toNat_natCast] at h1
  exact h.redo1 (o' := obR (Kd.int .i64) t w ok (.slice (some ⟨g, 0, none⟩) m c) (xs.set i x)) n hn ⟨h1.2.size, fun k hk hne => h1.2.block k hk (fun e => hne (by cases e; exact hg))⟩ (below_set h.below (hw g hg).1) ⟨fun b hb => ⟨.inl hb, (hw b hb).1, Nat.lt_of_lt_of_le (hw b hb).2 h1.2.size⟩, h1.1, firmR⟩
theorem St.cellI (h : St w W L) (n : Nat) (hn : L[n]? = some (obR (Kd.int .i64) t w ok (.slice (some ⟨g, 0, none⟩) m c) xs)) (i : Nat) (hi : i < xs.length) : W.cell? ⟨g, i, none⟩ = some (.int .i64 (rd xs (i : Int))) ∧ W.frozen? ⟨g, i, none⟩ = false := by
  have hR : Kd.R (Kd.int .i64) t W w.heap.size ok (.slice (some ⟨g, 0, none⟩) m c) xs := h.get n hn
  have hm : m = xs.length := (Kd.R_reads' hR).1
  have h1 := Kd.R_celln 0 hR (i : Int) (by omega) (by omega)
  rw [Int.toNat_natCast] at h1
  exact h1
end
theorem swapW_length {x : List Int} {i : Nat} (h : i + 1 < x.length) : (swapW x i).length = x.length := by
  unfold swapW
  simp; omega
section
variable {w W : World} {L : List Ob} {u : Value} {x : List Int}
set_option maxHeartbeats 16000000 in
set_option maxRecDepth 100000 in
theorem specWays_st (h : St w W L) (hu : ∀ W', St w W' L → Reads (Kd.int .i64) W' u x) (hx : x.length ≤ 65536) :
    Calls Tryd.prog 24 #[u] W fun e W' => ∃ v1 ok1 ys, e = .returned v1 ∧ OrdW ys ∧ (∀ z, z ∈ ys ↔ z ∈ waysI x) ∧ St w W' (obS (Kd.slice 3 (Kd.int .i64)) 22 w ok1 v1 ys :: L) := by
  obtain ⟨A, c, rfl, hc, _⟩ := hu W h
  have H0 := Aside0.mk h
  have HU := Aside0.mk hu
  obtain ⟨N, hN⟩ : ∃ N, N = x.length := ⟨_, rfl⟩
  rw [← hN] at hc hx
  have HC : Aside0 (∀ ad, A = some ad → ∀ W', St w W' L → ∀ i, i < N → W'.cell? (ad.add i) = some (.int .i64 (rd x (i : Int)))) := ⟨fun ad ha W' hW i hi => by
    obtain ⟨A', c', e, _, hC⟩ := hu W' hW
    injection e with e1 _ _
    obtain ⟨ad', e2, h3⟩ := Kd.at_int hC (i : Int) (by omega) (by omega)
    rw [← e1, ha] at e2
    injection e2 with e2
    rw [e2]
    rwa [Int.toNat_natCast] at h3⟩
  have HA : Aside0 (0 < N → ∃ ad, A = some ad) := ⟨fun h0 => by
    obtain ⟨A', c', e, _, hC⟩ := hu W h
    injection e with e1 _ _
    obtain ⟨ad', e2, _⟩ := Kd.at_int hC 0 (by omega) (by omega)
    exact ⟨ad', e1.trans e2⟩⟩
  have HN := Aside0.mk hN
  rw [← hN]
  clear h hu hN
  go_enter Tryd.func24, Tryd.ntmps24
  go_wp2_with (first
    | ((with_reducible refine gate_dst (N := 7) rfl ?_); refine St.lit0 (Kd.slice 3 (Kd.int .i64)) 22 (N := 7) rfl rfl ?hr H0.out ?_; (case hr => first | (go_simp; done) | (go_simp; rfl)); intro v1 w1 ok1 h_; have H1 := Aside0.mk h_; clear h_))
  go_loopg [3, 4] N (fun kq v3 v4 wr => ∃ (k : Nat) (ok : Nat → Prop) (ys : List (List Int)), k ≤ N ∧ N - k ≤ kq ∧ v4 = .int .i64 (k : Int) ∧ ys.length ≤ k ∧ Aside0 (OrdW ys ∧ ∀ z, z ∈ ys ↔ ∃ i, i < k ∧ i + 1 < x.length ∧ fineW x i ∧ rd x (i : Int) ≠ rd x ((i + 1 : Nat) : Int) ∧ z = swapW x i) ∧ Aside0 (St w wr (obS (Kd.slice 3 (Kd.int .i64)) 22 w ok v3 ys :: L)))
  case atStart => exact ⟨0, ok1, [], Nat.zero_le _, by omega, rfl, Nat.le_refl _, ⟨List.Pairwise.nil, fun z => ⟨fun h => (by cases h), fun ⟨i, hi, _⟩ => absurd hi (Nat.not_lt_zero i)⟩⟩, H1⟩
  case round =>
    clear H0 H1
    obtain ⟨k, ok, ys, hk, hg, rfl, hyl, HY, HS⟩ := hrel
    obtain ⟨k1, hk1⟩ : ∃ k1, k1 = k + 1 := ⟨_, rfl⟩
    have ek1 : IntKind.i64.wrap ((k : Int) + 1) = (k1 : Int) := by rw [IntWalk.i64_in _ (by omega)]; omega
    by_cases hlt : k1 < N
    · have hltz : (k1 : Int) < (N : Int) := by omega
      obtain ⟨ad, rfl⟩ := HA.out (by omega)
      have hk0 : (0 : Int) ≤ (k : Int) := by omega
      have hkz : (k : Int) < (N : Int) := by omega
      have hk10 : (0 : Int) ≤ (k1 : Int) := by omega
      have HK1 := Aside0.mk hk1
      have hk11 : k < N := by omega
      obtain ⟨A0, hA0⟩ : ∃ a, a = rd x (k : Int) := ⟨_, rfl⟩
      obtain ⟨A1, hA1⟩ : ∃ a, a = rd x (k1 : Int) := ⟨_, rfl⟩
      have HX : Aside0 (∀ W', St w W' L → W'.cell? (ad.add k) = some (.int .i64 A0) ∧ W'.cell? (ad.add k1) = some (.int .i64 A1)) := ⟨fun W' hW => by
        rw [hA0, hA1]
        exact ⟨HC.out ad rfl W' hW k (by omega), HC.out ad rfl W' hW k1 hlt⟩⟩
      have HA0 := Aside0.mk hA0
      have HA1 := Aside0.mk hA1
      clear hA0 hA1 hk1
      go_upto_region 5 with fail
      go_cut [5] (fun s5 wx => ∃ b : Bool, s5 = .bool b ∧ Aside0 (b = true ↔ fineW x k) ∧ Aside0 (St w wx (obS (Kd.slice 3 (Kd.int .i64)) 22 w ok u3 ys :: L)))
      case first =>
        obtain ⟨hx0, hx1⟩ := HX.out _ (St.drop_ HS.out)
        obtain ⟨k2, hk2⟩ : ∃ k2, k2 = k + 2 := ⟨_, rfl⟩
        have ek2 : IntKind.i64.wrap ((k : Int) + 2) = (k2 : Int) := by rw [IntWalk.i64_in _ (by omega)]; omega
        obtain ⟨nm, hnm⟩ : ∃ nm, nm = N - 1 := ⟨_, rfl⟩
        have enm : IntKind.i64.wrap ((N : Int) - 1) = (nm : Int) := by rw [IntWalk.i64_in _ (by omega)]; omega
        have HK2 := Aside0.mk hk2
        obtain ⟨bB, hB1, hB2⟩ := swapB_eq A0 A1 (rd x ((k - 1 : Nat) : Int))
        obtain ⟨bA, hA1_, hA2⟩ := swapA_eq A0 A1 (rd x ((k + 2 : Nat) : Int))
        have HF : Aside0 (fineW x k ↔ (0 < k ∧ bB = true) ∨ (k + 2 < N ∧ bA = true)) := ⟨by
          unfold fineW
          rw [hB2, hA2, HA0.out, HA1.out, HK1.out, HN.out]⟩
        by_cases h2 : k2 < N
        · have h2z : (k2 : Int) < (N : Int) := by omega
          have h20 : (0 : Int) ≤ (k2 : Int) := by omega
          have hd2 : decide (k2 < N) = true := decide_eq_true h2
          have hx2 : wr.cell? (ad.add k2) = some (.int .i64 (rd x ((k + 2 : Nat) : Int))) := by
            rw [← hk2]; exact HC.out ad rfl _ (St.drop_ HS.out) k2 h2
          obtain ⟨A2, hA2'⟩ : ∃ a, a = rd x ((k + 2 : Nat) : Int) := ⟨_, rfl⟩
          rw [← hA2'] at hx2 hA1_
          have HMin : Aside0 (spec_l1Min.f (k2 : Int) (nm : Int) = some (k2 : Int)) := ⟨by
            unfold spec_l1Min.f
            by_cases h : (k2 : Int) < (nm : Int)
            · rw [if_pos h]
            · rw [if_neg h]; congr 1; omega⟩
          have HSA := Aside0.mk hA1_
          have HS2 := Aside0.mk (show k + 2 < N by omega)
          clear hA1_ hA2' hB2 hA2 hk2 hnm
          by_cases h0 : 0 < k
          · have h0z : (0 : Int) < (k : Int) := by omega
            have hd0 : decide (0 < k) = true := decide_eq_true h0
            obtain ⟨km, hkm⟩ : ∃ km, km = k - 1 := ⟨_, rfl⟩
            have ekm : IntKind.i64.wrap ((k : Int) - 1) = (km : Int) := by rw [IntWalk.i64_in _ (by omega)]; omega
            have hkm0 : (0 : Int) ≤ (km : Int) := by omega
            have hkmz : (km : Int) < (N : Int) := by omega
            have hx3 : wr.cell? (ad.add km) = some (.int .i64 (rd x ((k - 1 : Nat) : Int))) := by
              rw [← hkm]; exact HC.out ad rfl _ (St.drop_ HS.out) km (by omega)
            obtain ⟨A3, hA3⟩ : ∃ a, a = rd x ((k - 1 : Nat) : Int) := ⟨_, rfl⟩
            rw [← hA3] at hx3 hB1
            have HMax : Aside0 (spec_l1Max.f (km : Int) 0 = some (km : Int)) := ⟨by
              unfold spec_l1Max.f
              by_cases h : (km : Int) > 0
              · rw [if_pos h]
              · rw [if_neg h]; congr 1; omega⟩
            have HSB := Aside0.mk hB1
            have H0K := Aside0.mk h0
            clear hB1 hA3 hkm h0
            cases bB with
            | true =>
              go_wp2_with fail
              go_quiet (first
                | (go_at_call 39; exact quiet0 (spec_l1Max.calls _ _ _ _ HMax.out))
                | (go_at_call 40; exact quiet0 (spec_l1Min.calls _ _ _ _ HMin.out))
                | (go_at_call 38; exact quiet0 (spec_l12Swap.calls _ _ _ _ _ _ HSB.out))
                | (go_at_call 38; exact quiet0 (spec_l12Swap.calls _ _ _ _ _ _ HSA.out)))
              go_wp2_with fail
              go_meet
              case rel => exact ⟨true, rfl, ⟨⟨fun _ => HF.out.2 (.inl ⟨H0K.out, by simp⟩), fun _ => rfl⟩⟩, ⟨HS.out.quiet (pw_below_drewN (Below.refl _ _) _)⟩⟩
            | false =>
              go_wp2_with fail
              go_quiet (first
                | (go_at_call 39; exact quiet0 (spec_l1Max.calls _ _ _ _ HMax.out))
                | (go_at_call 40; exact quiet0 (spec_l1Min.calls _ _ _ _ HMin.out))
                | (go_at_call 38; exact quiet0 (spec_l12Swap.calls _ _ _ _ _ _ HSB.out))
                | (go_at_call 38; exact quiet0 (spec_l12Swap.calls _ _ _ _ _ _ HSA.out)))
              go_wp2_with fail
              go_meet
              case rel => exact ⟨bA, rfl, ⟨⟨fun h => HF.out.2 (.inr ⟨HS2.out, h⟩), fun h => (HF.out.1 h).elim (fun h => by cases h.2) (fun h => h.2)⟩⟩, ⟨HS.out.quiet (pw_below_drewN (Below.refl _ _) _)⟩⟩
          · have hd0 : decide (0 < k) = false := decide_eq_false h0
            have H0K := Aside0.mk h0
            clear h0 hB1
            go_wp2_with fail
            go_quiet (first
              | (go_at_call 39; exact quiet0 (spec_l1Max.calls _ _ _ _ HMax.out))
              | (go_at_call 40; exact quiet0 (spec_l1Min.calls _ _ _ _ HMin.out))
              | (go_at_call 38; exact quiet0 (spec_l12Swap.calls _ _ _ _ _ _ HSB.out))
              | (go_at_call 38; exact quiet0 (spec_l12Swap.calls _ _ _ _ _ _ HSA.out)))
            go_wp2_with fail
            go_meet
            case rel => exact ⟨bA, rfl, ⟨⟨fun h => HF.out.2 (.inr ⟨HS2.out, h⟩), fun h => (HF.out.1 h).elim (fun h => absurd h.1 H0K.out) (fun h => h.2)⟩⟩, ⟨HS.out.quiet (pw_below_drewN (Below.refl _ _) _)⟩⟩
        · have hd2 : decide (k2 < N) = false := decide_eq_false h2
          have HS2 := Aside0.mk (show ¬ k + 2 < N by omega)
          clear hA1_ hB2 hA2 hk2 hnm enm
          by_cases h0 : 0 < k
          · have h0z : (0 : Int) < (k : Int) := by omega
            have hd0 : decide (0 < k) = true := decide_eq_true h0
            obtain ⟨km, hkm⟩ : ∃ km, km = k - 1 := ⟨_, rfl⟩
            have ekm : IntKind.i64.wrap ((k : Int) - 1) = (km : Int) := by rw [IntWalk.i64_in _ (by omega)]; omega
            have hkm0 : (0 : Int) ≤ (km : Int) := by omega
            have hkmz : (km : Int) < (N : Int) := by omega
            have hx3 : wr.cell? (ad.add km) = some (.int .i64 (rd x ((k - 1 : Nat) : Int))) := by
              rw [← hkm]; exact HC.out ad rfl _ (St.drop_ HS.out) km (by omega)
            obtain ⟨A3, hA3⟩ : ∃ a, a = rd x ((k - 1 : Nat) : Int) := ⟨_, rfl⟩
            rw [← hA3] at hx3 hB1
            have HMax : Aside0 (spec_l1Max.f (km : Int) 0 = some (km : Int)) := ⟨by
              unfold spec_l1Max.f
              by_cases h : (km : Int) > 0
              · rw [if_pos h]
              · rw [if_neg h]; congr 1; omega⟩
            have HSB := Aside0.mk hB1
            have H0K := Aside0.mk h0
            clear hB1 hA3 hkm h0
            cases bB with
            | true =>
              go_wp2_with fail
              go_quiet (first
                | (go_at_call 39; exact quiet0 (spec_l1Max.calls _ _ _ _ HMax.out))
                | (go_at_call 40; exact quiet0 (spec_l1Min.calls _ _ _ _ HMin.out))
                | (go_at_call 38; exact quiet0 (spec_l12Swap.calls _ _ _ _ _ _ HSB.out))
                | (go_at_call 38; exact quiet0 (spec_l12Swap.calls _ _ _ _ _ _ HSA.out)))
              go_wp2_with fail
              go_meet
              case rel => exact ⟨true, rfl, ⟨⟨fun _ => HF.out.2 (.inl ⟨H0K.out, by simp⟩), fun _ => rfl⟩⟩, ⟨HS.out.quiet (pw_below_drewN (Below.refl _ _) _)⟩⟩
            | false =>
              go_wp2_with fail
              go_quiet (first
                | (go_at_call 39; exact quiet0 (spec_l1Max.calls _ _ _ _ HMax.out))
                | (go_at_call 40; exact quiet0 (spec_l1Min.calls _ _ _ _ HMin.out))
                | (go_at_call 38; exact quiet0 (spec_l12Swap.calls _ _ _ _ _ _ HSB.out))
                | (go_at_call 38; exact quiet0 (spec_l12Swap.calls _ _ _ _ _ _ HSA.out)))
              go_wp2_with fail
              go_meet
              case rel => exact ⟨false, rfl, ⟨⟨fun h => (by cases h), fun h => (HF.out.1 h).elim (fun h => (by cases h.2)) (fun h => absurd h.1 HS2.out)⟩⟩, ⟨HS.out.quiet (pw_below_drewN (Below.refl _ _) _)⟩⟩
          · have hd0 : decide (0 < k) = false := decide_eq_false h0
            have H0K := Aside0.mk h0
            clear h0 hB1
            go_wp2_with fail
            go_quiet (first
              | (go_at_call 39; exact quiet0 (spec_l1Max.calls _ _ _ _ HMax.out))
              | (go_at_call 40; exact quiet0 (spec_l1Min.calls _ _ _ _ HMin.out))
              | (go_at_call 38; exact quiet0 (spec_l12Swap.calls _ _ _ _ _ _ HSB.out))
              | (go_at_call 38; exact quiet0 (spec_l12Swap.calls _ _ _ _ _ _ HSA.out)))
            go_wp2_with fail
            go_meet
            case rel => exact ⟨false, rfl, ⟨⟨fun h => (by cases h), fun h => (HF.out.1 h).elim (fun h => absurd h.1 H0K.out) (fun h => absurd h.1 HS2.out)⟩⟩, ⟨HS.out.quiet (pw_below_drewN (Below.refl _ _) _)⟩⟩
      case rest =>
        clear HS
        obtain ⟨b, rfl, HF, HS⟩ := hcut
        cases b with
        | false =>
          have HY2 : Aside0 (OrdW ys ∧ ∀ z, z ∈ ys ↔ ∃ i, i < k + 1 ∧ i + 1 < x.length ∧ fineW x i ∧ rd x (i : Int) ≠ rd x ((i + 1 : Nat) : Int) ∧ z = swapW x i) := ⟨HY.out.1, fun z => by
            rw [HY.out.2]
            constructor
            · rintro ⟨i, hi, h⟩; exact ⟨i, by omega, h⟩
            · rintro ⟨i, hi, h⟩
              refine ⟨i, ?_, h⟩
              by_cases e : i = k
              · rw [e] at h; have := HF.out.2 h.2.1; cases this
              · omega⟩
          go_wp2_with fail
          go_quiet (fail)
          go_wp2
          go_roundg (N - (k + 1))
          case measure => omega
          case rel => exact ⟨k + 1, ok, ys, by omega, by omega, by rw [← HK1.out], by omega, HY2, ⟨HS.out.quiet (pw_below_drewN (Below.refl _ _) _)⟩⟩
        | true =>
          have HD := Aside0.mk (HS.out.quiet (pw_below_drewN (Below.refl _ _) 0))
          obtain ⟨hx0, hx1⟩ := HX.out _ (St.drop_ HS.out)
          by_cases he : A0 = A1
          · have he1 : (A0 == A1) = true := beq_iff_eq.mpr he
            have HY2 : Aside0 (OrdW ys ∧ ∀ z, z ∈ ys ↔ ∃ i, i < k + 1 ∧ i + 1 < x.length ∧ fineW x i ∧ rd x (i : Int) ≠ rd x ((i + 1 : Nat) : Int) ∧ z = swapW x i) := ⟨HY.out.1, fun z => by
              rw [HY.out.2]
              constructor
              · rintro ⟨i, hi, h⟩; exact ⟨i, by omega, h⟩
              · rintro ⟨i, hi, h⟩
                refine ⟨i, ?_, h⟩
                by_cases e : i = k
                · rw [e, ← HK1.out, ← HA0.out, ← HA1.out] at h; exact absurd he h.2.2.1
                · omega⟩
            clear he
            go_wp2_with fail
            go_quiet (fail)
            go_wp2
            go_roundg (N - (k + 1))
            case measure => omega
            case rel => exact ⟨k + 1, ok, ys, by omega, by omega, by rw [← HK1.out], by omega, HY2, ⟨HS.out.quiet (pw_below_drewN (Below.refl _ _) _)⟩⟩
          · have he1 : (A0 == A1) = false := beq_eq_false_iff_ne.mpr he
            have HE := Aside0.mk he
            clear he
            go_wp2_with fail
            go_quiet (fail)
            have HS1 := Aside0.mk (HS.out.quiet (pw_below_drewN (Below.refl wc.heap.size wc) nq))
            generalize wc.drewN nq = wq at HS1 ⊢
            clear hx0 hx1 HS HD he1
            have HY2 : ∀ ys1 : List (List Int), (∀ z, z ∈ ys1 ↔ z ∈ ys ∨ z = swapW x k) → ∀ z, z ∈ ys1 ↔ ∃ i, i < k + 1 ∧ i + 1 < x.length ∧ fineW x i ∧ rd x (i : Int) ≠ rd x ((i + 1 : Nat) : Int) ∧ z = swapW x i := fun ys1 h1 z => by
              rw [h1, HY.out.2]
              constructor
              · rintro (⟨i, hi, h⟩ | h)
                · exact ⟨i, by omega, h⟩
                · exact ⟨k, by omega, by rw [← HN.out, ← HK1.out]; exact hlt, HF.out.1 (by simp), by rw [← HK1.out, ← HA0.out, ← HA1.out]; exact HE.out, h⟩
              · rintro ⟨i, hi, h⟩
                by_cases e : i = k
                · rw [e] at h; exact .inr h.2.2.2
                · exact .inl ⟨i, by omega, h⟩
            have HY3 := Aside0.mk HY2
            have HSW : Aside0 ((x.set k A1).set k1 A0 = swapW x k) := ⟨by
              unfold swapW
              have h1 : k < x.length := by rw [← HN.out]; exact hk11
              have h2 : k + 1 < x.length := by rw [← HN.out, ← HK1.out]; exact hlt
              rw [HK1.out, ← HK1.out, ← HA0.out, ← HA1.out, HK1.out]
              apply List.ext_getElem?
              intro j
              rw [List.getElem?_set, List.getElem?_set]
              by_cases hj : k + 1 = j
              · subst hj
                rw [if_pos rfl, if_pos (by simpa using h2), List.append_assoc, List.getElem?_append_right (by rw [List.length_take]; omega), List.length_take, Nat.min_eq_left (by omega), show k + 1 - k = 1 by omega]
                rfl
              · rw [if_neg hj]
                by_cases hj2 : k = j
                · subst hj2
                  rw [if_pos rfl, if_pos h1, List.append_assoc, List.getElem?_append_right (by rw [List.length_take]; omega), List.length_take, Nat.min_eq_left (by omega), Nat.sub_self]
                  rfl
                · rw [if_neg hj2]
                  by_cases hj3 : j < k
                  · rw [List.append_assoc, List.getElem?_append_left (by rw [List.length_take]; omega), List.getElem?_take, if_pos hj3]
                  · rw [List.getElem?_append_right (by simp; omega), List.getElem?_drop]
                    congr 1
                    simp; omega⟩
            clear HY2
            have HYL : Aside0 (∀ z ∈ ys, z.length ≤ 1048576) := ⟨fun z hz => by
              obtain ⟨i, _, hi, _, _, rfl⟩ := (HY.out.2 z).1 hz
              rw [swapW_length hi, ← HN.out]; omega⟩
            go_wp2_with (first
              | ((with_reducible refine gate_dst (N := 77) rfl ?_); refine St.litNil (N := 77) rfl rfl ?hr HS1.out ?_; (case hr => first | (go_simp; done) | (go_simp; rfl)); intro v5 w5 ok5 h_; have H5 := Aside0.mk h_; clear h_)
              | (at_builtin; refine St.putInts rfl (.tmp 77) (.tmp 78) rfl H5.out 0 rfl rfl rfl (by obtain ⟨A5, c5, e5, _, h5⟩ := HU.out _ (St.drop_ (St.drop_ H5.out)); injection e5 with e5 _ _; rw [← HN.out, ← e5] at h5; exact h5) (by simp only [List.length_nil]; omega) ?_; intro v6 w6 ok6 h_; have h6 : St w w6 (obR (Kd.int .i64) 3 w ok6 v6 x :: obS (Kd.slice 3 (Kd.int .i64)) 22 w ok u3 ys :: L) := h_; clear h_; obtain ⟨g6, c6, e6, _, _⟩ := Kd.R_form (show Kd.R (Kd.int .i64) 3 w6 w.heap.size ok6 v6 x from h6.get 0 rfl) (by rw [← HN.out]; omega); rw [← HN.out] at e6; subst e6; have H6 := Aside0.mk h6; have H7 := Aside0.mk (St.storeI h6 0 rfl k A1); have H8 := Aside0.mk (St.storeI H7.out 0 rfl k1 A0); obtain ⟨zx0, zx1⟩ := HX.out _ (St.drop_ (St.drop_ H6.out)); obtain ⟨zy0, zy1⟩ := HX.out _ (St.drop_ (St.drop_ H7.out)); obtain ⟨zs0, zf0⟩ := St.cellI H6.out 0 rfl k (by rw [← HN.out]; exact hk11); obtain ⟨zs1, zf1⟩ := St.cellI H7.out 0 rfl k1 (by rw [List.length_set, ← HN.out]; exact hlt); clear h6)
              | (go_at_call 17; refine (put_st (St.perm_ H8.out (List.Perm.swap _ _ _)) HY.out.1 (fun W' hW => by obtain ⟨A5, c5, e5, h5, h6⟩ := hW.readR 0 rfl; refine ⟨A5, c5, ?_, h5, h6⟩; rw [← e5]) HYL.out (by rw [List.length_set, List.length_set, ← HN.out]; omega) (by omega)).mono ?_; rintro e w9 ⟨v9, ok9, ys9, rfl, hO9, hl9, hm9, h9⟩; have H9 := Aside0.mk (St.less h9 (.cons_cons _ (.cons _ (List.Sublist.refl _)))); have HO9 := Aside0.mk hO9; have HM9 := Aside0.mk hm9; clear hO9 hm9 h9))
            go_roundg (N - (k + 1))
            case measure => omega
            case rel => exact ⟨k + 1, ok9, ys9, by omega, by omega, by rw [← HK1.out], by omega, ⟨HO9.out, HY3.out ys9 (by rw [← HSW.out]; exact HM9.out)⟩, H9⟩
    · have hltz : ¬ (k1 : Int) < (N : Int) := by omega
      have HF : Aside0 (∀ z, z ∈ ys ↔ z ∈ waysI x) := ⟨fun z => by
        rw [HY.out.2, ← waysS_iff]
        constructor
        · rintro ⟨i, _, h⟩; exact ⟨i, h⟩
        · rintro ⟨i, h⟩; exact ⟨i, by have := HN.out; have := h.1; omega, h⟩⟩
      clear hk1
      go_wp2
      go_ret
      exact ⟨_, rfl, ok, ys, HY.out.1, HF.out, HS.out⟩
end
end Go.Proofs.YthdoglkdcbghpaaDoor.Q

set_option linter.unusedVariables false
set_option linter.unusedSimpArgs false
namespace Go.Proofs.YthdoglkdcbghpaaDoor.Q
open Go.RowKit Go.Proofs.YthdoglkdcbghpaaDoor.F Go.Proofs.YthdoglkdcbghpaaDoorW.PrintWords Go.Proofs.YthdoglkdcbghpaaDoorW.PrintLast Go.Proofs.YthdoglkdcbghpaaDoorW.PrintMore
theorem spec_l12Index_ev (l : List (List Int)) (z : List Int) (hl : l.length ≤ 1048576) (hb : ∀ r ∈ l, r.length ≤ 1048576) : Ev (fun k => spec_l12Index.f k l z) (if z ∈ l then (l.idxOf z : Int) else -1) := by
  unfold spec_l12Index.f
  have key : ∀ d i : Nat, i + d = l.length → z ∉ l.take i → Ev (fun k => spec_l12Index.l0 k l z (i : Int)) (if z ∈ l then (l.idxOf z : Int) else -1) := by
    intro d
    induction d with
    | zero =>
      intro i hi hz
      refine Ev.step (fun k => by rw [spec_l12Index.l0]) (ev_neg (by omega) (ev_val ?_))
      rw [List.take_of_length_le (by omega)] at hz
      rw [if_neg hz]
    | succ d ih =>
      intro i hi hz
      have hlt : i < l.length := by omega
      refine Ev.step (fun k => by rw [spec_l12Index.l0]) (ev_pos (by omega) (ev_pos (by omega) ?_))
      rw [rows_eq l i hlt]
      refine Ev.bind (spec_l2Same_ev l[i] z (hb _ (List.getElem_mem hlt))) ?_
      by_cases e : l[i] = z
      · refine ev_pos (decide_eq_true e) (ev_val ?_)
        have hm : z ∈ l := by rw [← e]; exact List.getElem_mem hlt
        rw [if_pos hm]
        have h0 : l = l.take i ++ z :: l.drop (i + 1) := by rw [← e, ← List.drop_eq_getElem_cons hlt, List.take_append_drop]
        have h1 : l.idxOf z = i := by
          rw [h0, List.idxOf_append, if_neg hz, List.idxOf_cons_self, List.length_take]; omega
        rw [h1]
      · refine ev_neg (by simp [e]) ?_
        rw [wrap_succ (by omega)]
        refine ih (i + 1) (by omega) ?_
        rw [List.take_succ_eq_append_getElem hlt]
        intro h
        rcases List.mem_append.1 h with h | h
        · exact hz h
        · exact e (List.mem_singleton.1 h).symm
  exact key l.length 0 (by omega) (by simp)
section
variable {w W : World} {L : List Ob} {v u : Value} {l : List (List Int)} {z : List Int}
theorem index_st (h : St w W L) (hr : Reads (Kd.slice 3 (Kd.int .i64)) W v l) (hr' : Reads (Kd.int .i64) W u z) (hl : l.length ≤ 1048576) (hb : ∀ r ∈ l, r.length ≤ 1048576) {q : Int} (hq : (if z ∈ l then (l.idxOf z : Int) else -1) = q) :
    Calls Tryd.prog 23 #[v, u] W fun e W' => e = .returned (.int .i64 q) ∧ St w W' L := by
  obtain ⟨A, c, rfl, hc, hC⟩ := hr
  obtain ⟨A', c', rfl, hc', hC'⟩ := hr'
  obtain ⟨K, hK⟩ := ev_eq (spec_l12Index_ev l z hl hb) hq
  refine (spec_l12Index.calls K A c l A' c' z _ W hC hc hC' hc' (hK K (Nat.le_refl _))).mono ?_
  rintro e W' ⟨rfl, hd⟩
  exact ⟨rfl, h.drawn hd⟩
end
section
variable {w W : World} {L : List Ob} {u : Value} {x : List Int}
set_option maxHeartbeats 1000000 in
set_option maxRecDepth 100000 in
theorem specReach_st (h : St w W L) (hu : ∀ W', St w W' L → Reads (Kd.int .i64) W' u x) (hw : isWord x = true) (h7 : x.length ≤ 9) :
    Calls Tryd.prog 16 #[u] W fun e W' => ∃ (v1 v2 : Value) (ok okD okf : Nat → Prop) (ps : List Rw), e = .returned (.tuple #[v1, v2]) ∧ ps.map Rw.r = (reachW x).1 ∧ (ps.map Rw.k).Nodup ∧
      St w W' (obR spK 22 w ok v1 ps :: obP w okD ps :: obR (Kd.int .i64) 3 w okf v2 (reachW x).2 :: L) := by
  obtain ⟨A, c, rfl, hc, _⟩ := hu W h
  have H0 := Aside0.mk h
  have HU := Aside0.mk hu
  have HW := Aside0.mk hw
  obtain ⟨N, hN⟩ : ∃ N, N = x.length := ⟨_, rfl⟩
  rw [← hN] at hc h7
  have HN := Aside0.mk hN
  rw [← hN]
  clear h hu hN hw
  go_enter Tryd.func16, Tryd.ntmps16
  go_wp2_with (first
    | ((with_reducible refine gate_dst (N := 9) rfl ?_); refine St.litNil (N := 9) rfl rfl ?hr H0.out ?_; (case hr => first | (go_simp; done) | (go_simp; rfl)); intro v1 w1 ok0 h_; have H1 := Aside0.mk h_; clear h_)
    | (at_builtin; refine St.putInts rfl (.tmp 9) (.tmp 10) rfl H1.out 0 rfl rfl rfl (by obtain ⟨A5, c5, e5, _, h5⟩ := HU.out _ (St.drop_ H1.out); injection e5 with e5 _ _; rw [← HN.out, ← e5] at h5; exact h5) (by simp only [List.length_nil]; omega) ?_; intro v2 w2 ok1 h_; have h2 : St w w2 (obR (Kd.int .i64) 3 w ok1 v2 x :: L) := h_; clear h_; obtain ⟨A1, c1, e2, _, _⟩ := St.readR h2 0 rfl; subst e2; have H2 := Aside0.mk h2; clear h2)
    | ((with_reducible refine gate_dst (N := 12) rfl ?_); refine St.oneP (N := 12) ⟨0, A1, c1, x⟩ rfl rfl ?hr H2.out ?_; (case hr => (unfold Rw.v; first | (go_simp; done) | (go_simp; rfl))); intro g3 w3 ok3 h_; have H3 := Aside0.mk h_; clear h_)
    | ((with_reducible refine gate_dst (N := 13) rfl ?_); refine St.litOne (N := 13) 0 rfl rfl ?hr H3.out ?_; (case hr => first | (go_simp; done) | (go_simp; rfl)); intro v4 w4 ok4 h_; have H4 := Aside0.mk h_; clear h_))
  have HI : Aside0 (∃ okB, St w w4 (obR spK 22 w ok3 (.slice (some ⟨g3, 0, none⟩) 1 1) [⟨0, A1, c1, x⟩] :: obP w okB [⟨0, A1, c1, x⟩] :: obR (Kd.int .i64) 3 w ok4 v4 (bfs waysO x 0).2 :: L)) := ⟨⟨_, St.perm_ (St.pool (St.perm_ H4.out perm3) 0) perm3⟩⟩
  obtain ⟨okB, h_⟩ := HI.out
  have HS0 := Aside0.mk h_
  clear h_ HI H0 H1 H2 H3 H4
  go_loopg [4, 5, 6] 362881 (fun kq v4 v5 v6 wr => ∃ (i g c1 M : Nat) (ps : List Rw) (ok okD okf : Nat → Prop), i ≤ 362880 ∧ 362881 - i ≤ kq ∧ v6 = .int .i64 (i : Int) ∧ v4 = .slice (some ⟨g, 0, none⟩) ps.length c1 ∧ ps.length ≤ c1 ∧ ps.length ≤ 362880 ∧ i ≤ ps.length ∧ Aside0 (ps.map Rw.r = (bfs waysO x i).1 ∧ (ps.map Rw.k).Nodup ∧ ∀ p ∈ ps, p.k < M) ∧ Aside0 (St w wr (obR spK 22 w ok v4 ps :: obP w okD ps :: obR (Kd.int .i64) 3 w okf v5 (bfs waysO x i).2 :: L)))
  case atStart => exact ⟨0, g3, 1, 1, [⟨0, A1, c1, x⟩], ok3, okB, ok4, by omega, by omega, rfl, rfl, by simp, by simp, by omega, ⟨rfl, by simp, fun p hp => by rw [List.mem_singleton.1 hp]; exact Nat.zero_lt_one⟩, HS0⟩
  case round =>
    clear HS0
    obtain ⟨i, g, c1, M, ps, ok, okD, okf, hi, hg, rfl, rfl, hc1, hpl, hip, HP, HS⟩ := hrel
    by_cases hlt : i < ps.length
    · have hz : (i : Int) < (ps.length : Int) := by omega
      have hi0 : (0 : Int) ≤ (i : Int) := by omega
      have hlb : i < (bfs waysO x i).1.length := by rw [← HP.out.1, List.length_map]; exact hlt
      obtain ⟨y, hy⟩ : ∃ y, y = (bfs waysO x i).1.getD i [] := ⟨_, rfl⟩
      have hye : (bfs waysO x i).1[i]? = some y := by rw [hy, List.getD_eq_getElem?_getD, List.getElem?_eq_getElem hlb]; rfl
      have hyp : y.Perm x := bfs_perm x i _ (List.mem_of_getElem? hye)
      have HYW : Aside0 (isWord y = true) := ⟨isWord_perm hyp HW.out⟩
      have HYN : Aside0 (y.length = N) := ⟨by rw [hyp.length_eq, HN.out]⟩
      obtain ⟨p, hp⟩ : ∃ p, ps[i] = p := ⟨_, rfl⟩
      have hpm : p ∈ ps := by rw [← hp]; exact List.getElem_mem hlt
      have hpr : p.r = y := by
        have h1 : (ps.map Rw.r)[i]? = some p.r := by rw [List.getElem?_map, List.getElem?_eq_getElem hlt, hp]; rfl
        rw [HP.out.1, hye] at h1
        exact (Option.some.inj h1).symm
      have hx := (St.cellP HS.out 0 rfl i hlt).1
      rw [hp] at hx
      obtain ⟨pk, pA, pc, pr⟩ := p
      obtain rfl : pr = y := hpr
      change wr.cell? ⟨g, i, none⟩ = some (.slice pA pr.length pc) at hx
      obtain ⟨ns, hns⟩ : ∃ ns, ns = waysO pr := ⟨_, rfl⟩
      obtain ⟨d0, hd0⟩ : ∃ d, d = (bfs waysO x i).2.getD i 0 := ⟨_, rfl⟩
      obtain ⟨d1, hd1⟩ : ∃ d, d = d0 + 1 := ⟨_, rfl⟩
      have hdb := midW_d hlb
      rw [← hd0] at hdb
      have ew : IntKind.i64.wrap (d0 + 1) = d1 := by rw [IntWalk.i64_in _ (by omega)]; exact hd1.symm
      have hnsb : ns.length ≤ 9 := by rw [hns]; exact (waysO_bd pr).1
      have HPM := Aside0.mk hpm
      have HPI := Aside0.mk (show ps[i]? = some ⟨pk, pA, pc, pr⟩ by rw [List.getElem?_eq_getElem hlt, hp])
      have HNS := Aside0.mk hns
      have HLB := Aside0.mk hlb
      have HY := Aside0.mk hy
      have HD0 := Aside0.mk hd0
      have HD1 := Aside0.mk hd1
      have hiw : IntKind.i64.wrap ((i : Int) + 1) = ((i + 1 : Nat) : Int) := by rw [IntWalk.i64_in _ (by omega)]; omega
      clear hp hye hyp hns hy hd0 hd1 hdb hlb hpm
      go_wp2_with (first
        | (go_at_call 24; refine (specWays_st (x := pr) HS.out (fun W' hW => St.readP hW 1 rfl HPM.out) (by have := HYN.out; change pr.length = N at this; omega)).mono ?_; rintro e w5 ⟨v5, ok5, ys5, rfl, ho5, hm5, h_⟩; have hys : ys5 = ns := (by rw [HNS.out]; unfold waysO; rw [if_pos HYW.out]; exact ordOf_eq ho5 hm5); subst hys; obtain ⟨nps, okn, oknp, hr5, hk5, h5⟩ := St.split h_ M; obtain ⟨A5, c5, e5, hc5, _⟩ := St.readS0 h5 0 rfl; have HNL : Aside0 (nps.length = ys5.length) := ⟨by rw [← hr5, List.length_map]⟩; rw [HNL.out] at e5 hc5; subst e5; have HR5 := Aside0.mk hr5; have HK5 := Aside0.mk hk5; obtain ⟨okq, h6⟩ := St.pour (St.perm_ h5 perm5); have H6 := Aside0.mk h6; clear h_ h5 h6 hr5 hk5 ho5 hm5))
      clear HS hx
      go_loopg [4, 5, 8] ys5.length (fun kq v4 v5 v8 wr => ∃ (q g c1 : Nat) (qs : List Rw) (ok okf : Nat → Prop), q ≤ ys5.length ∧ ys5.length - q ≤ kq ∧ v8 = .int .i64 (q : Int) ∧ v4 = .slice (some ⟨g, 0, none⟩) qs.length c1 ∧ qs.length ≤ c1 ∧ qs.length ≤ 362880 ∧ ps.length ≤ qs.length ∧ Aside0 (qs.map Rw.r = (midW x i q).1 ∧ (qs.map Rw.k).Nodup ∧ (∀ p ∈ qs, p ∈ ps ∨ ∃ j, j < q ∧ nps[j]? = some p) ∧ ∀ j (h : j < ps.length), qs[j]? = ps[j]?) ∧ Aside0 (St w wr (obP w okq (nps ++ ps) :: obR spK 22 w ok v4 qs :: obR (Kd.int .i64) 3 w okf v5 (midW x i q).2 :: obR spK 22 w okn (.slice A5 ys5.length c5) nps :: L)))
      case atStart => exact ⟨0, g, c1, ps, ok, okf, Nat.zero_le _, by omega, rfl, rfl, hc1, hpl, Nat.le_refl _, ⟨by rw [midW_zero]; exact HP.out.1, HP.out.2.1, fun p hp => .inl hp, fun _ _ => rfl⟩, ⟨by rw [midW_zero]; exact H6.out⟩⟩
      case round =>
        clear H6 hc1 hpl
        obtain ⟨q, g, c1, qs, ok, okf, hq, hg, rfl, rfl, hc1, hql, hqp, HQ, HS⟩ := hrel
        by_cases hlq : q < ys5.length
        · have hqz : (q : Int) < (ys5.length : Int) := by omega
          have hq0 : (0 : Int) ≤ (q : Int) := by omega
          have hqn : q < nps.length := by rw [HNL.out]; exact hlq
          obtain ⟨gn, cn, e5, _, _⟩ := St.spine HS.out 3 rfl (by omega)
          rw [HNL.out] at e5
          injection e5 with e5 _ e6
          subst e5 e6
          obtain ⟨z, hz⟩ : ∃ z, nps[q] = z := ⟨_, rfl⟩
          have hcell := (St.cellP HS.out 3 rfl q hqn).1
          rw [hz] at hcell
          have HZM := Aside0.mk (show z ∈ nps ++ ps by rw [← hz]; exact List.mem_append_left _ (List.getElem_mem hqn))
          have HZK : Aside0 (z.k = q + M) := ⟨by
            have h1 : (nps.map Rw.k)[q]? = some z.k := by rw [List.getElem?_map, List.getElem?_eq_getElem hqn, hz]; rfl
            rw [HK5.out, List.getElem?_map, List.getElem?_eq_getElem (by simpa using hlq), List.getElem_range] at h1
            exact (Option.some.inj h1).symm⟩
          have hzr : ys5[q]? = some z.r := by
            have h1 : (nps.map Rw.r)[q]? = some z.r := by rw [List.getElem?_map, List.getElem?_eq_getElem hqn, hz]; rfl
            rwa [HR5.out] at h1
          have hzp : z.r.Perm pr := waysO_perm (by rw [← HNS.out]; exact List.mem_of_getElem? hzr)
          have HZW : Aside0 (isWord z.r = true) := ⟨isWord_perm hzp HYW.out⟩
          have HZN : Aside0 (z.r.length = N) := ⟨by rw [hzp.length_eq]; exact HYN.out⟩
          have HMS : Aside0 (midW x i (q + 1) = seen d1 (midW x i q) z.r) := ⟨by
            rw [HD1.out, HD0.out]
            exact midW_succ (by rw [← HY.out, ← HNS.out]; exact hzr)⟩
          have HZP := Aside0.mk (show nps[q]? = some z by rw [List.getElem?_eq_getElem hqn, hz])
          clear hz hzr hzp
          obtain ⟨zk, zA, zc, zr⟩ := z
          change wr.cell? ⟨gn, q, none⟩ = some (.slice zA zr.length zc) at hcell
          have hqw : IntKind.i64.wrap ((q : Int) + 1) = ((q + 1 : Nat) : Int) := by rw [IntWalk.i64_in _ (by omega)]; omega
          have HMP := Aside0.mk (show ∀ p ∈ qs, p ∈ nps ++ ps from fun p hp => by
            rcases HQ.out.2.2.1 p hp with h1 | ⟨j, hj, h1⟩
            · exact List.mem_append_right _ h1
            · exact List.mem_append_left _ (List.mem_of_getElem? h1))
          have HLN : Aside0 (∀ r ∈ qs.map Rw.r, r.length ≤ 1048576) := ⟨fun r hr => by
            rw [HQ.out.1] at hr
            rw [(midW_perm HLB.out r hr).length_eq, ← HN.out]; omega⟩
          by_cases hm : zr ∈ (midW x i q).1
          · have HM := Aside0.mk hm
            obtain ⟨ix, hix⟩ : ∃ ix : Nat, ix = (qs.map Rw.r).idxOf zr := ⟨_, rfl⟩
            have HIX : Aside0 ((if zr ∈ qs.map Rw.r then ((qs.map Rw.r).idxOf zr : Int) else -1) = (ix : Int)) := ⟨by rw [HQ.out.1, if_pos hm, hix, HQ.out.1]⟩
            have hlx : ¬ (ix : Int) < 0 := by omega
            clear hm hix
            go_wp2_with (first
              | (go_at_call 23; refine (index_st HS.out (St.readSP HS.out 1 0 rfl rfl HMP.out) (St.readP HS.out 0 rfl HZM.out) (by rw [List.length_map]; omega) HLN.out HIX.out).mono ?_; rintro e w7 ⟨rfl, h_⟩; have H7 := Aside0.mk h_; clear h_))
            go_roundg (ys5.length - (q + 1))
            case measure => omega
            case rel => exact ⟨q + 1, g, c1, qs, ok, okf, by omega, Nat.le_refl _, by go_num, rfl, hc1, hql, hqp, ⟨by rw [HMS.out, seen_old HM.out]; exact HQ.out.1, HQ.out.2.1, fun p hp => (HQ.out.2.2.1 p hp).imp id (fun ⟨j, hj, h⟩ => ⟨j, by omega, h⟩), HQ.out.2.2.2⟩, ⟨by rw [HMS.out, seen_old HM.out]; exact H7.out⟩⟩
          · have HM := Aside0.mk hm
            have HIX : Aside0 ((if zr ∈ qs.map Rw.r then ((qs.map Rw.r).idxOf zr : Int) else -1) = -1) := ⟨by rw [HQ.out.1, if_neg hm]⟩
            have hb1 : (qs.length + 1) * 24 ≤ 140737488355328 := by omega
            have HFL : Aside0 ((midW x i q).2.length = qs.length) := ⟨by rw [← midW_ok.1, ← HQ.out.1, List.length_map]⟩
            have HFD : Aside0 (rd (midW x i q).2 (i : Int) = d0) := ⟨by
              rw [rd_nat, HD0.out]; exact (midW_at (q := q) HLB.out).2⟩
            have hif : i < (midW x i q).2.length := by rw [HFL.out]; omega
            clear hm
            have HQ2 : Aside0 ((qs ++ [Rw.mk zk zA zc zr]).map Rw.r = (midW x i (q + 1)).1 ∧ ((qs ++ [Rw.mk zk zA zc zr]).map Rw.k).Nodup ∧ (∀ p ∈ qs ++ [Rw.mk zk zA zc zr], p ∈ ps ∨ ∃ j, j < q + 1 ∧ nps[j]? = some p) ∧ ∀ j (h : j < ps.length), (qs ++ [Rw.mk zk zA zc zr])[j]? = ps[j]?) := ⟨by
              refine ⟨?_, ?_, fun p hp => ?_, fun j hj => ?_⟩
              · rw [HMS.out, seen_new HM.out, List.map_append, HQ.out.1]; rfl
              · rw [List.map_append]
                refine List.nodup_append.2 ⟨HQ.out.2.1, by simp, fun a ha b hb e => ?_⟩
                obtain ⟨p, hp, rfl⟩ := List.mem_map.1 ha
                have hb2 : b = zk := by simpa using hb
                have hk2 : zk = q + M := HZK.out
                rcases HQ.out.2.2.1 p hp with h1 | ⟨j, hj, h1⟩
                · have := HP.out.2.2 p h1; omega
                · have h2 : (nps.map Rw.k)[j]? = some p.k := by rw [List.getElem?_map, h1]; rfl
                  rw [HK5.out, List.getElem?_map] at h2
                  obtain ⟨m, h3, h4⟩ := Option.map_eq_some_iff.1 h2
                  obtain ⟨h5, h6⟩ := List.getElem?_eq_some_iff.1 h3
                  rw [List.getElem_range] at h6
                  omega
              · rcases List.mem_append.1 hp with hp | hp
                · exact (HQ.out.2.2.1 p hp).imp id (fun ⟨j, hj, h⟩ => ⟨j, by omega, h⟩)
                · rw [List.mem_singleton.1 hp]; exact .inr ⟨q, by omega, HZP.out⟩
              · rw [List.getElem?_append_left (by omega)]; exact HQ.out.2.2.2 j hj⟩
            have HL2 : Aside0 ((qs ++ [Rw.mk zk zA zc zr]).length = qs.length + 1) := ⟨by simp⟩
            have hql2 : (qs ++ [Rw.mk zk zA zc zr]).length ≤ 362880 := by
              have := midW_few (q := q + 1) (by rw [← HN.out]; exact h7) HLB.out
              rw [← HQ2.out.1, List.length_map] at this
              exact this
            have HMF : Aside0 ((midW x i (q + 1)).2 = (midW x i q).2 ++ [d1]) := ⟨by rw [HMS.out, seen_new HM.out]⟩
            obtain ⟨F, hF⟩ : ∃ F, F = (midW x i q).2 := ⟨_, rfl⟩
            have HS9 : Aside0 (St w wr (obP w okq (nps ++ ps) :: obR spK 22 w ok (.slice (some ⟨g, 0, none⟩) qs.length c1) qs :: obR (Kd.int .i64) 3 w okf u5 F :: obR spK 22 w okn (.slice (some ⟨gn, 0, none⟩) ys5.length c5) nps :: L)) := ⟨by rw [hF]; exact HS.out⟩
            have HIF : Aside0 (i < F.length) := ⟨by rw [hF]; exact hif⟩
            have HFD2 : Aside0 (rd F (i : Int) = d0) := ⟨by rw [hF]; exact HFD.out⟩
            have hfl : F.length ≤ 362880 := by rw [hF, HFL.out]; exact hql
            have HMF2 : Aside0 ((midW x i (q + 1)).2 = F ++ [d1]) := ⟨by rw [hF]; exact HMF.out⟩
            obtain ⟨gf, cf, ef, _, _⟩ := Kd.R_form (show Kd.R (Kd.int .i64) 3 wr w.heap.size okf u5 F from HS9.out.get 2 rfl) (by have := HIF.out; omega)
            subst ef
            have hfz : (i : Int) < (F.length : Int) := by have := HIF.out; omega
            have HQP := Aside0.mk hqn
            have HCN : Aside0 (∀ W', St w W' (obP w okq (nps ++ ps) :: obR spK 22 w ok (.slice (some ⟨g, 0, none⟩) qs.length c1) qs :: obR (Kd.int .i64) 3 w okf (.slice (some ⟨gf, 0, none⟩) F.length cf) F :: obR spK 22 w okn (.slice (some ⟨gn, 0, none⟩) ys5.length c5) nps :: L) → W'.cell? ⟨gn, q, none⟩ = some (.slice zA zr.length zc)) := ⟨fun W' hW => by
              have h1 := (St.cellP hW 3 rfl q HQP.out).1
              have h2 := HZP.out
              rw [List.getElem?_eq_getElem HQP.out] at h2
              rw [Option.some.inj h2] at h1
              exact h1⟩
            clear hF HS hif HFL HFD HMF hqn
            go_wp2_with (first
              | (go_at_call 23; refine (index_st HS9.out (St.readSP HS9.out 1 0 rfl rfl HMP.out) (St.readP HS9.out 0 rfl HZM.out) (by rw [List.length_map]; omega) HLN.out HIX.out).mono ?_; rintro e w7 ⟨rfl, h_⟩; have hc7 := HCN.out _ h_; have H7 := Aside0.mk h_; clear h_)
              | (at_builtin; refine St.addP rfl (.tmp 38) (.tmp 43) rfl ⟨zk, zA, zc, zr⟩ H7.out 1 rfl rfl rfl hb1 ?_; intro v12 w12 ok12 h_; obtain ⟨g12, c12, e12, hc12, _⟩ := St.spine h_ 1 rfl (by simp); subst e12; have H12 : Aside0 (St w w12 (obP w okq (nps ++ ps) :: obR spK 22 w ok12 (.slice (some ⟨g12, 0, none⟩) (qs ++ [Rw.mk zk zA zc zr]).length c12) (qs ++ [Rw.mk zk zA zc zr]) :: obR (Kd.int .i64) 3 w okf (.slice (some ⟨gf, 0, none⟩) F.length cf) F :: obR spK 22 w okn (.slice (some ⟨gn, 0, none⟩) ys5.length c5) nps :: L)) := (⟨h_⟩); clear h_; generalize qs ++ [Rw.mk zk zA zc zr] = qs2 at *; have hf12 := (St.cellI H12.out 2 rfl i HIF.out).1; rw [HFD2.out] at hf12)
              | (at_builtin; refine St.put1 (x := d1) (bb := 0) (c := 0) rfl (.tmp 45) (.tmp 51) rfl H12.out 2 rfl rfl rfl (by omega) ?_; intro v13 w13 ok13 h_; have H13 : Aside0 (St w w13 (obP w okq (nps ++ ps) :: obR spK 22 w ok12 (.slice (some ⟨g12, 0, none⟩) qs2.length c12) qs2 :: obR (Kd.int .i64) 3 w ok13 v13 (midW x i (q + 1)).2 :: obR spK 22 w okn (.slice (some ⟨gn, 0, none⟩) ys5.length c5) nps :: L)) := (⟨by rw [HMF2.out]; exact h_⟩); clear h_))
            go_roundg (ys5.length - (q + 1))
            case measure => omega
            case rel => exact ⟨q + 1, g12, c12, qs2, ok12, ok13, by omega, Nat.le_refl _, by go_num, rfl, hc12, hql2, by have := HL2.out; omega, HQ2, H13⟩
        · have hqz : ¬ (q : Int) < (ys5.length : Int) := by omega
          have HME : Aside0 (midW x i q = bfs waysO x (i + 1)) := ⟨midW_end HLB.out (by rw [← HY.out, ← HNS.out]; omega)⟩
          have HQ2 : Aside0 (qs.map Rw.r = (bfs waysO x (i + 1)).1 ∧ (qs.map Rw.k).Nodup ∧ ∀ p ∈ qs, p.k < M + ys5.length) := ⟨by rw [← HME.out]; exact HQ.out.1, HQ.out.2.1, fun p hp => by
            rcases HQ.out.2.2.1 p hp with h1 | ⟨j, hj, h1⟩
            · have := HP.out.2.2 p h1; omega
            · have h2 : (nps.map Rw.k)[j]? = some p.k := by rw [List.getElem?_map, h1]; rfl
              rw [HK5.out, List.getElem?_map] at h2
              obtain ⟨m, h3, h4⟩ := Option.map_eq_some_iff.1 h2
              obtain ⟨h5, h6⟩ := List.getElem?_eq_some_iff.1 h3
              rw [List.getElem_range] at h6
              rw [List.length_range] at h5
              omega⟩
          have HS2 := Aside0.mk (St.thin HS.out 0 rfl (D1 := qs) (fun p hp => by
            rcases HQ.out.2.2.1 p hp with h1 | ⟨j, hj, h1⟩
            · exact List.mem_append_right _ h1
            · exact List.mem_append_left _ (List.mem_of_getElem? h1)))
          have HS3 : Aside0 (St w wr (obR spK 22 w ok (.slice (some ⟨g, 0, none⟩) qs.length c1) qs :: obP w okq qs :: obR (Kd.int .i64) 3 w okf u5 (bfs waysO x (i + 1)).2 :: L)) := ⟨by
            rw [← HME.out]
            exact St.less (St.perm_ HS2.out (List.Perm.swap _ _ _)) (.cons_cons _ (.cons_cons _ (.cons_cons _ (.cons _ (List.Sublist.refl _)))))⟩
          clear HS HS2
          go_wp2
          go_roundg (362881 - (i + 1))
          case measure => omega
          case rel => exact ⟨i + 1, g, c1, M + ys5.length, qs, ok, okq, okf, by omega, Nat.le_refl _, rfl, rfl, hc1, hql, by omega, HQ2, HS3⟩
    · have hz : ¬ (i : Int) < (ps.length : Int) := by omega
      have HE : Aside0 (bfs waysO x i = reachW x) := ⟨reachW_eq hi (by rw [← HP.out.1, List.length_map]; omega)⟩
      go_wp2
      go_ret2
      exact ⟨_, _, rfl, ok, okD, okf, ps, by rw [← HE.out]; exact HP.out.1, HP.out.2.1, by rw [← HE.out]; exact HS.out⟩
end
end Go.Proofs.YthdoglkdcbghpaaDoor.Q

set_option linter.unusedVariables false
set_option linter.unusedSimpArgs false
namespace Go.Proofs.YthdoglkdcbghpaaDoor.Q
open Go.RowKit Go.Proofs.YthdoglkdcbghpaaDoor.F Go.Proofs.YthdoglkdcbghpaaDoorW.PrintWords Go.Proofs.YthdoglkdcbghpaaDoorW.PrintLast Go.Proofs.YthdoglkdcbghpaaDoorW.PrintMore
noncomputable def classW (x : List Int) : List (List Int) := if isWord x = true ∧ x.length ≤ 7 then ordOf (reachW x).1 else []
theorem reachW_nodup (x : List Int) : (reachW x).1.Nodup := (bfs_met (nb := waysO) (w := x) capW).1.2.1
theorem ord_of_sorted {l : List (List Int)} (h : l.Pairwise (fun a b => lexB b a = false)) (hn : l.Nodup) : OrdW l := by
  refine List.Pairwise.imp₂ (fun a b h1 h2 => ?_) h hn
  cases h3 : lexB a b with
  | true => rfl
  | false => exact absurd (lexB_tri h3 h1) h2
section
variable {w W : World} {L : List Ob} {u : Value} {x : List Int}
theorem specIsWord_st {v : Value} (h : St w W L) (hr : Reads (Kd.int .i64) W v x) (hl : x.length ≤ 1048576) {q : Bool} (hq : isWord x = q) :
    Calls Tryd.prog 15 #[v] W fun e W' => e = .returned (.bool q) ∧ St w W' L := by
  obtain ⟨A, c, rfl, hc, hC⟩ := hr
  obtain ⟨K, hK⟩ := ev_eq (spec_IsWord_ev x hl) hq
  refine (spec_IsWord.calls K A c x q W hC hc (hK K (Nat.le_refl _))).mono ?_
  rintro e W' ⟨rfl, hd⟩
  exact ⟨rfl, h.drawn hd⟩
set_option maxHeartbeats 1000000 in
set_option maxRecDepth 100000 in
theorem implClass_st (h : St w W L) (hu : ∀ W', St w W' L → Reads (Kd.int .i64) W' u x) (hl : x.length ≤ 1048576) :
    Calls Tryd.prog 7 #[u] W fun e W' => ∃ v1 ok1, e = .returned v1 ∧ St w W' (obS (Kd.slice 3 (Kd.int .i64)) 22 w ok1 v1 (classW x) :: L) := by
  obtain ⟨A, c, rfl, hc, _⟩ := hu W h
  have H0 := Aside0.mk h
  have HU := Aside0.mk hu
  obtain ⟨N, hN⟩ : ∃ N, N = x.length := ⟨_, rfl⟩
  have HN := Aside0.mk hN
  have HU2 : Aside0 (∀ W', St w W' L → Reads (Kd.int .i64) W' (.slice A N c) x) := ⟨by rw [hN]; exact hu⟩
  rw [← hN] at hl ⊢
  clear h hu hc hN
  by_cases hw : isWord x = true
  · have HW := Aside0.mk hw
    clear hw
    by_cases h7 : N ≤ 7
    · have h7z : ¬ (7 : Int) < (N : Int) := by omega
      have HE : Aside0 (classW x = ordOf (reachW x).1) := ⟨by unfold classW; rw [if_pos ⟨HW.out, by rw [← HN.out]; exact h7⟩]⟩
      have HX7 : Aside0 (x.length ≤ 7) := ⟨by rw [← HN.out]; exact h7⟩
      go_enter Tryd.func7, Tryd.ntmps7
      go_wp2_with (first
        | (go_at_call 18; refine (isWord_st H0.out (HU2.out _ H0.out) HW.out).mono ?_; rintro e w1 ⟨rfl, h_⟩; have H1 := Aside0.mk h_; clear h_)
        | (go_at_call 19; refine (distances_st H1.out HU2.out HW.out (Nat.le_trans HX7.out (by decide))).mono ?_; rintro e w2 ⟨g, c2, b, ok2, okD, ps, rfl, hr_, hk_, hc2, h_⟩; have H2 := Aside0.mk h_; have HR := Aside0.mk hr_; have HK := Aside0.mk hk_; clear h_ hr_ hk_; have HPL : Aside0 (∀ p ∈ ps, p.r.length ≤ 1048576) := ⟨fun p hp => (by have h1 : p.r ∈ (reachW x).1 := (by rw [← HR.out]; exact List.mem_map_of_mem hp); rw [(bfs_perm x capW _ h1).length_eq, ← HN.out]; omega)⟩; have HPN : Aside0 (ps.length ≤ 362880) := ⟨(by have h1 := bfs_few x (Nat.le_trans HX7.out (by decide)) capW; have h2 : ps.length = (bfs waysO x capW).1.length := (by rw [← List.length_map (f := Rw.r), HR.out]; rfl); omega)⟩)
        | (go_at_call 20; refine (sort_st H2.out (fun _ h => h) HPL.out (by have := HPN.out; omega)).mono ?_; rintro e w5 ⟨rfl, qs, hp, hs, h_⟩; have HLE := Aside0.mk hp.length_eq; rw [← HLE.out] at h_; have H5 := Aside0.mk h_; have HPm := Aside0.mk hp; have HSo := Aside0.mk hs; clear h_ hp hs))
      go_ret
      have e7 : qs.map Rw.r = classW x := by
        rw [HE.out]
        have hpm := HPm.out.map Rw.r
        rw [HR.out] at hpm
        refine ordOf_eq (ord_of_sorted (List.pairwise_map.2 HSo.out) (hpm.nodup_iff.1 (reachW_nodup x))) (fun z => hpm.mem_iff.symm)
      obtain ⟨ok7, h7_⟩ := St.join H5.out (fun p hp => HPm.out.mem_iff.2 hp) ((HPm.out.map Rw.k).nodup_iff.1 HK.out)
      refine ⟨_, ok7, rfl, ?_⟩
      rw [← e7]
      exact St.less h7_ (.cons_cons _ (.cons _ (List.Sublist.refl _)))
    · have h7z : (7 : Int) < (N : Int) := by omega
      have HE : Aside0 (classW x = []) := ⟨by unfold classW; rw [if_neg (fun h => h7 (by rw [HN.out]; exact h.2))]⟩
      go_enter Tryd.func7, Tryd.ntmps7
      go_wp2_with (first
        | (go_at_call 18; refine (isWord_st H0.out (HU2.out _ H0.out) HW.out).mono ?_; rintro e w1 ⟨rfl, h_⟩; have H1 := Aside0.mk h_; clear h_))
      go_ret
      obtain ⟨ok2, h2⟩ := H1.out.addS (Below.refl _ _) (Kd.S_nil (Kd.slice 3 (Kd.int .i64)) 22 w1 w1.heap.size (fun _ => True))
      exact ⟨_, ok2, rfl, by rw [HE.out]; exact h2⟩
  · have HW : Aside0 (isWord x = false) := ⟨by simpa using hw⟩
    have HE : Aside0 (classW x = []) := ⟨by unfold classW; rw [if_neg (fun h => hw h.1)]⟩
    clear hw
    go_enter Tryd.func7, Tryd.ntmps7
    go_wp2_with (first
      | (go_at_call 18; refine (isWord_st H0.out (HU2.out _ H0.out) HW.out).mono ?_; rintro e w1 ⟨rfl, h_⟩; have H1 := Aside0.mk h_; clear h_))
    go_ret
    obtain ⟨ok2, h2⟩ := H1.out.addS (Below.refl _ _) (Kd.S_nil (Kd.slice 3 (Kd.int .i64)) 22 w1 w1.heap.size (fun _ => True))
    exact ⟨_, ok2, rfl, by rw [HE.out]; exact h2⟩
set_option maxHeartbeats 1000000 in
set_option maxRecDepth 100000 in
theorem specClass_st (h : St w W L) (hu : ∀ W', St w W' L → Reads (Kd.int .i64) W' u x) (hl : x.length ≤ 1048576) :
    Calls Tryd.prog 5 #[u] W fun e W' => ∃ v1 ok1, e = .returned v1 ∧ St w W' (obS (Kd.slice 3 (Kd.int .i64)) 22 w ok1 v1 (classW x) :: L) := by
  obtain ⟨A, c, rfl, hc, _⟩ := hu W h
  have H0 := Aside0.mk h
  have HU := Aside0.mk hu
  obtain ⟨N, hN⟩ : ∃ N, N = x.length := ⟨_, rfl⟩
  have HN := Aside0.mk hN
  have HU2 : Aside0 (∀ W', St w W' L → Reads (Kd.int .i64) W' (.slice A N c) x) := ⟨by rw [hN]; exact hu⟩
  have HL := Aside0.mk hl
  rw [← hN] at hl ⊢
  clear h hu hc hN
  by_cases hw : isWord x = true
  · have HW := Aside0.mk hw
    clear hw
    by_cases h7 : N ≤ 7
    · have h7z : ¬ (7 : Int) < (N : Int) := by omega
      have HE : Aside0 (classW x = ordOf (reachW x).1) := ⟨by unfold classW; rw [if_pos ⟨HW.out, by rw [← HN.out]; exact h7⟩]⟩
      have HX7 : Aside0 (x.length ≤ 7) := ⟨by rw [← HN.out]; exact h7⟩
      go_enter Tryd.func5, Tryd.ntmps5
      go_wp2_with (first
        | ((with_reducible refine gate_dst (N := 7) rfl ?_); refine St.lit0 (Kd.slice 3 (Kd.int .i64)) 22 (N := 7) rfl rfl ?hr H0.out ?_; (case hr => first | (go_simp; done) | (go_simp; rfl)); intro v1 w1 ok1 h_; have H1 := Aside0.mk h_; clear h_)
        | (go_at_call 15; refine (specIsWord_st H1.out (HU2.out _ (St.drop_ H1.out)) HL.out HW.out).mono ?_; rintro e w2 ⟨rfl, h_⟩; have H2 := Aside0.mk h_; clear h_)
        | (go_at_call 16; refine (specReach_st H2.out (fun W' hW => HU2.out _ (St.drop_ hW)) HW.out (Nat.le_trans HX7.out (by decide))).mono ?_; rintro e w3 ⟨v3, v4, ok3, okD, okf, ps, rfl, hr_, hk_, h_⟩; obtain ⟨A3, c3, e3, _, _⟩ := St.readS0 h_ 0 rfl; subst e3; have H3 := Aside0.mk (St.perm_ h_ ((List.perm_append_comm (l₁ := [_, _, _]) (l₂ := [_])).append_right L)); have HR := Aside0.mk hr_; have HK := Aside0.mk hk_; clear h_ hr_ hk_))
      have H4 : Aside0 (St w w3 (obS (Kd.slice 3 (Kd.int .i64)) 22 w ok1 v1 [] :: obR spK 22 w ok3 (.slice A3 ps.length c3) ps :: obP w okD ps :: obR (Kd.int .i64) 3 w okf v4 (reachW x).2 :: L)) := H3
      have HPL : Aside0 (∀ p ∈ ps, p.r.length ≤ 7) := ⟨fun p hp => by
        have h1 : p.r ∈ (reachW x).1 := by rw [← HR.out]; exact List.mem_map_of_mem hp
        rw [(bfs_perm x capW _ h1).length_eq, ← HN.out]; exact h7⟩
      have hpn : ps.length ≤ 362880 := by
        have h1 := bfs_few x (Nat.le_trans HX7.out (by decide)) capW
        have h2 : ps.length = (bfs waysO x capW).1.length := by rw [← List.length_map (f := Rw.r), HR.out]; rfl
        omega
      clear H1 H2 H3
      go_loopg [3, 6] ps.length (fun kq v3 v6 wr => ∃ (k : Nat) (ok : Nat → Prop) (ys : List (List Int)), k ≤ ps.length ∧ ps.length - k ≤ kq ∧ v6 = .int .i64 (k : Int) ∧ ys.length ≤ k ∧ Aside0 (OrdW ys ∧ ∀ z, z ∈ ys ↔ z ∈ (ps.take k).map Rw.r) ∧ Aside0 (St w wr (obS (Kd.slice 3 (Kd.int .i64)) 22 w ok v3 ys :: obR spK 22 w ok3 (.slice A3 ps.length c3) ps :: obP w okD ps :: obR (Kd.int .i64) 3 w okf v4 (reachW x).2 :: L)))
      case atStart => exact ⟨0, ok1, [], Nat.zero_le _, by omega, rfl, Nat.le_refl _, ⟨List.Pairwise.nil, fun z => by rw [List.take_zero]; exact Iff.rfl⟩, H4⟩
      case round =>
        clear H4
        obtain ⟨k, ok, ys, hk, hg, rfl, hyl, HY, HS⟩ := hrel
        by_cases hlt : k < ps.length
        · have hz : (k : Int) < (ps.length : Int) := by omega
          have hk0 : (0 : Int) ≤ (k : Int) := by omega
          obtain ⟨g3, c4, e3, _, _⟩ := St.spine HS.out 1 rfl (by omega)
          injection e3 with e3 _ e4
          subst e3 e4
          obtain ⟨p, hp⟩ : ∃ p, ps[k] = p := ⟨_, rfl⟩
          have HPM := Aside0.mk (show p ∈ ps by rw [← hp]; exact List.getElem_mem hlt)
          have hx := (St.cellP HS.out 1 rfl k hlt).1
          rw [hp] at hx
          have HTK : Aside0 (ps.take (k + 1) = ps.take k ++ [p]) := ⟨by rw [List.take_succ_eq_append_getElem hlt, hp]⟩
          clear hp
          obtain ⟨pk, pA, pc, pr⟩ := p
          change wr.cell? ⟨g3, k, none⟩ = some (.slice pA pr.length pc) at hx
          have HYL : Aside0 (∀ z ∈ ys, z.length ≤ 1048576) := ⟨fun z hz => by
            obtain ⟨p, hp, rfl⟩ := List.mem_map.1 ((HY.out.2 z).1 hz)
            have := HPL.out p (List.mem_of_mem_take hp); omega⟩
          have hkw : IntKind.i64.wrap ((k : Int) + 1) = ((k + 1 : Nat) : Int) := by rw [IntWalk.i64_in _ (by omega)]; omega
          go_wp2_with (first
            | (go_at_call 17; refine (put_st (y := pr) HS.out HY.out.1 (fun W' hW => St.readP hW 1 rfl HPM.out) HYL.out (by have := HPL.out _ HPM.out; change pr.length ≤ 7 at this; omega) (by omega)).mono ?_; rintro e w9 ⟨v9, ok9, ys9, rfl, hO9, hl9, hm9, h9⟩; have H9 := Aside0.mk h9; have HO9 := Aside0.mk hO9; have HM9 := Aside0.mk hm9; clear hO9 hm9 h9))
          go_roundg (ps.length - (k + 1))
          case measure => omega
          case rel => exact ⟨k + 1, ok9, ys9, by omega, Nat.le_refl _, by go_num, by omega, ⟨HO9.out, fun z => by
            rw [HM9.out, HY.out.2, HTK.out, List.map_append, List.mem_append]
            exact or_congr Iff.rfl (by simp)⟩, H9⟩
        · have hz : ¬ (k : Int) < (ps.length : Int) := by omega
          have HF : Aside0 (ys = classW x) := ⟨by
            rw [HE.out]
            refine ordOf_eq HY.out.1 (fun z => ?_)
            rw [HY.out.2, List.take_of_length_le (by omega), HR.out]⟩
          go_wp2
          go_ret
          exact ⟨_, rfl, ok, by rw [← HF.out]; exact St.less HS.out (.cons_cons _ (.cons _ (.cons _ (.cons _ (List.Sublist.refl _)))))⟩
    · have h7z : (7 : Int) < (N : Int) := by omega
      have HE : Aside0 (classW x = []) := ⟨by unfold classW; rw [if_neg (fun h => h7 (by rw [HN.out]; exact h.2))]⟩
      go_enter Tryd.func5, Tryd.ntmps5
      go_wp2_with (first
        | ((with_reducible refine gate_dst (N := 7) rfl ?_); refine St.lit0 (Kd.slice 3 (Kd.int .i64)) 22 (N := 7) rfl rfl ?hr H0.out ?_; (case hr => first | (go_simp; done) | (go_simp; rfl)); intro v1 w1 ok1 h_; have H1 := Aside0.mk h_; clear h_)
        | (go_at_call 15; refine (specIsWord_st H1.out (HU2.out _ (St.drop_ H1.out)) HL.out HW.out).mono ?_; rintro e w2 ⟨rfl, h_⟩; have H2 := Aside0.mk h_; clear h_))
      go_ret
      exact ⟨_, ok1, rfl, by rw [HE.out]; exact H2.out⟩
  · have HW : Aside0 (isWord x = false) := ⟨by simpa using hw⟩
    have HE : Aside0 (classW x = []) := ⟨by unfold classW; rw [if_neg (fun h => hw h.1)]⟩
    clear hw
    go_enter Tryd.func5, Tryd.ntmps5
    go_wp2_with (first
      | ((with_reducible refine gate_dst (N := 7) rfl ?_); refine St.lit0 (Kd.slice 3 (Kd.int .i64)) 22 (N := 7) rfl rfl ?hr H0.out ?_; (case hr => first | (go_simp; done) | (go_simp; rfl)); intro v1 w1 ok1 h_; have H1 := Aside0.mk h_; clear h_)
      | (go_at_call 15; refine (specIsWord_st H1.out (HU2.out _ (St.drop_ H1.out)) HL.out HW.out).mono ?_; rintro e w2 ⟨rfl, h_⟩; have H2 := Aside0.mk h_; clear h_))
    go_ret
    exact ⟨_, ok1, rfl, by rw [HE.out]; exact H2.out⟩
end
end Go.Proofs.YthdoglkdcbghpaaDoor.Q

set_option linter.unusedVariables false
set_option linter.unusedSimpArgs false
namespace Go.Proofs.YthdoglkdcbghpaaDoor.Q
open Go.RowKit Go.Proofs.YthdoglkdcbghpaaDoor.F Go.Proofs.YthdoglkdcbghpaaDoorW.PrintWords Go.Proofs.YthdoglkdcbghpaaDoorW.PrintLast Go.Proofs.YthdoglkdcbghpaaDoorW.PrintMore
section
variable {w W : World} {L : List Ob} {u u2 : Value} {x s : List Int}
set_option maxHeartbeats 1000000 in
set_option maxRecDepth 100000 in
theorem specPath_st (h : St w W L) (hu : ∀ W', St w W' L → Reads (Kd.int .i64) W' u x) (hu2 : ∀ W', St w W' L → Reads (Kd.int .i64) W' u2 s) (hlx : x.length ≤ 1048576) (hls : s.length ≤ 1048576) :
    Calls Tryd.prog 13 #[u, u2] W fun e W' => ∃ v1 ok1, e = .returned (.tuple #[v1, .bool (pathB x s)]) ∧ St w W' (obS (Kd.slice 3 (Kd.int .i64)) 22 w ok1 v1 (pathF x s) :: L) := by
  obtain ⟨A, c, rfl, hc, _⟩ := hu W h
  obtain ⟨A2, c2, rfl, hc2, _⟩ := hu2 W h
  have H0 := Aside0.mk h
  obtain ⟨N, hN⟩ : ∃ N, N = x.length := ⟨_, rfl⟩
  obtain ⟨N2, hN2⟩ : ∃ N, N = s.length := ⟨_, rfl⟩
  have HU : Aside0 (∀ W', St w W' L → Reads (Kd.int .i64) W' (.slice A N c) x) := ⟨by rw [hN]; exact hu⟩
  have HU2 : Aside0 (∀ W', St w W' L → Reads (Kd.int .i64) W' (.slice A2 N2 c2) s) := ⟨by rw [hN2]; exact hu2⟩
  have HN := Aside0.mk hN
  have HLX := Aside0.mk hlx
  have HLS := Aside0.mk hls
  rw [← hN, ← hN2]
  clear h hu hu2 hc hc2 hN hN2 hlx hls
  have HNO : Aside0 (¬ (isWord x = true ∧ isWord s = true ∧ x.length ≤ 7 ∧ x ∈ (reachW s).1) → pathF x s = [] ∧ pathB x s = false) := ⟨fun h => ⟨by unfold pathF; rw [if_neg h], by unfold pathB; exact decide_eq_false h⟩⟩
  by_cases hx : isWord x = true
  · have HX := Aside0.mk hx
    by_cases hs : isWord s = true
    · have HS := Aside0.mk hs
      have hs9 := (isWord_iff.1 hs).1
      have HS9 := Aside0.mk hs9
      by_cases h7 : N ≤ 7
      · have h7z : ¬ (7 : Int) < (N : Int) := by omega
        by_cases hm : x ∈ (reachW s).1
        · have HM := Aside0.mk hm
          have HY : Aside0 (pathF x s = pathW s (pathD s x) x ∧ pathB x s = true) := ⟨by
            have h1 : isWord x = true ∧ isWord s = true ∧ x.length ≤ 7 ∧ x ∈ (reachW s).1 := ⟨hx, hs, by rw [← HN.out]; exact h7, hm⟩
            exact ⟨by unfold pathF; rw [if_pos h1], by unfold pathB; exact decide_eq_true h1⟩⟩
          have hd0 := pathD_eq hs9 hm
          obtain ⟨d0, hd⟩ : ∃ d, d = pathD s x := ⟨_, rfl⟩
          rw [← hd] at hd0 HY
          have hdb := far_bd hd0 hs9
          have HD0 := Aside0.mk hd0
          obtain ⟨i0, hi0⟩ : ∃ i, i = (reachW s).1.idxOf x := ⟨_, rfl⟩
          have hi0a : (reachW s).1[i0]? = some x := by
            have h1 := List.idxOf_lt_length_of_mem hm
            rw [hi0, List.getElem?_eq_getElem h1, List.getElem_idxOf h1]
          have HI0 := Aside0.mk hi0a
          have HIX : Aside0 ((if x ∈ (reachW s).1 then ((reachW s).1.idxOf x : Int) else -1) = (i0 : Int)) := ⟨by rw [if_pos hm, hi0]⟩
          have hi0z : ¬ (i0 : Int) < 0 := by omega
          clear hx hs hm hd hd0 hs9 HNO hi0 hi0a
          go_enter Tryd.func13, Tryd.ntmps13
          go_wp2_with (first
            | (go_at_call 15; (with_reducible refine (specIsWord_st H0.out (HU.out _ H0.out) HLX.out HX.out).mono ?_); rintro e w1 ⟨rfl, h_⟩; have H1 := Aside0.mk h_; clear h_)
            | (go_at_call 15; (with_reducible refine (specIsWord_st H1.out (HU2.out _ H1.out) HLS.out HS.out).mono ?_); rintro e w2 ⟨rfl, h_⟩; have H2 := Aside0.mk h_; clear h_)
            | (go_at_call 16; refine (specReach_st H2.out HU2.out HS.out HS9.out).mono ?_; rintro e w3 ⟨v3, v4, ok3, okD, okf, ps, rfl, hr_, hk_, h_⟩; have H3 := Aside0.mk h_; have HR := Aside0.mk hr_; clear h_ hr_ hk_)
            | (go_at_call 23; refine (index_st (q := (i0 : Int)) H3.out (St.readSP H3.out 0 1 rfl rfl (fun _ h => h)) (HU.out _ (St.drop_ (St.drop_ (St.drop_ H3.out)))) (by rw [HR.out]; have := bfs_few s HS9.out capW; exact Nat.le_trans this (by decide)) (fun r hr => by rw [HR.out] at hr; rw [(bfs_perm s capW r hr).length_eq]; exact HLS.out) (by rw [HR.out]; exact HIX.out)).mono ?_; rintro e w4 ⟨rfl, h_⟩; have H4 := Aside0.mk h_; clear h_)
            | ((with_reducible refine gate_dst (N := 37) rfl ?_); refine St.litNil (N := 37) rfl rfl ?hr H4.out ?_; (case hr => first | (go_simp; done) | (go_simp; rfl)); intro v5 w5 ok5 h_; have H5 := Aside0.mk h_; clear h_)
            | (at_builtin; refine St.putInts rfl (.tmp 37) (.tmp 38) rfl H5.out 0 rfl rfl rfl (Reads.C (A := A) (c := c) (xs := x) (by rw [← HN.out]; exact HU.out _ (St.drop_ (St.drop_ (St.drop_ (St.drop_ H5.out))))) |>.2 |> (by rw [HN.out]; exact ·)) (by simp only [List.length_nil]; omega) ?_; intro v6 w6 ok6 h_; have h6 : St w w6 (obR (Kd.int .i64) 3 w ok6 v6 x :: obR spK 22 w ok3 v3 ps :: obP w okD ps :: obR (Kd.int .i64) 3 w okf v4 (reachW s).2 :: L) := h_; clear h_; obtain ⟨A6, c6, e6, _, _⟩ := St.readR h6 0 rfl; subst e6; have H6 := Aside0.mk h6; clear h6)
            | ((with_reducible refine gate_dst (N := 40) rfl ?_); refine St.oneP (N := 40) ⟨0, A6, c6, x⟩ rfl rfl ?hr H6.out ?_; (case hr => (unfold Rw.v; first | (go_simp; done) | (go_simp; rfl))); intro g7 w7 ok7 h_; have H7 := Aside0.mk h_; clear h_))
          have hpl : ps.length = (reachW s).1.length := by rw [← HR.out, List.length_map]
          have hpp : 0 < ps.length := by rw [hpl]; exact Nat.lt_of_le_of_lt (Nat.zero_le _) (List.getElem?_eq_some_iff.1 HI0.out).1
          have hpn : ps.length ≤ 362880 := by rw [hpl]; exact bfs_few s HS9.out capW
          obtain ⟨F, hF⟩ : ∃ F, F = (reachW s).2 := ⟨_, rfl⟩
          have hFl : F.length = ps.length := by rw [hF, hpl]; exact (reach_met s).1.symm
          have h8 := St.perm_ (St.pool (St.perm_ H7.out (List.Perm.swap _ _ _)) 0) (List.Perm.swap _ _ _)
          obtain ⟨gl, cl, e8, _, _⟩ := St.spine h8 2 rfl hpp
          subst e8
          rw [← hF] at h8
          obtain ⟨gf, cf, e9, _, _⟩ := Kd.R_form (show Kd.R (Kd.int .i64) 3 w7 w.heap.size okf v4 F from h8.get 4 rfl) (by omega)
          subst e9
          have HS0 := Aside0.mk h8
          have HF := Aside0.mk hF
          have HFl := Aside0.mk hFl
          have HPL := Aside0.mk hpl
          clear h8 hF hFl hpl H0 H1 H2 H3 H4 H5 H6 H7
          go_loopg [8, 9] d0 (fun kq v8 v9 wr => ∃ (d ix g c1 : Nat) (y : List Int) (os : List Rw) (ok okO : Nat → Prop), d ≤ kq ∧ d ≤ d0 ∧ v8 = .int .i64 (ix : Int) ∧ v9 = .slice (some ⟨g, 0, none⟩) os.length c1 ∧ os.length ≤ c1 ∧ os.length + d ≤ d0 + 1 ∧ ix < ps.length ∧ Aside0 (os.map Rw.r ++ (pathW s d y).drop 1 = pathW s d0 x ∧ os.map Rw.k = (List.range os.length).map (· + 0)) ∧ Aside0 (farOf (reachW s) y = some (d : Int) ∧ (reachW s).1[ix]? = some y) ∧ Aside0 (St w wr (obR spK 22 w ok v9 os :: obP w okO os :: obR spK 22 w ok3 (.slice (some ⟨gl, 0, none⟩) ps.length cl) ps :: obP w okD ps :: obR (Kd.int .i64) 3 w okf (.slice (some ⟨gf, 0, none⟩) F.length cf) F :: L)))
          case atStart => exact ⟨d0, i0, g7, 1, x, [⟨0, A6, c6, x⟩], ok7, _, Nat.le_refl _, Nat.le_refl _, rfl, rfl, by simp, by simp; omega, by rw [HPL.out]; exact (List.getElem?_eq_some_iff.1 HI0.out).1, ⟨by cases d0 <;> rfl, rfl⟩, ⟨HD0.out, HI0.out⟩, HS0⟩
          case round =>
            clear HS0
            obtain ⟨d, ix, g, c1, y, os, ok, okO, hg, hdd, rfl, rfl, hc1, hol, hix, HO, HFY, HSt⟩ := hrel
            have hixz : (ix : Int) < (ps.length : Int) := by omega
            have hix0 : (0 : Int) ≤ (ix : Int) := by omega
            have hixf : (ix : Int) < (F.length : Int) := by have := HFl.out; omega
            obtain ⟨dz, hdz⟩ : ∃ z : Int, z = (d : Int) := ⟨_, rfl⟩
            have HFD : Aside0 (rd F (ix : Int) = dz) := ⟨by
              rw [hdz, rd_nat, HF.out]
              have h1 := farOf_at (reach_met s).2.1 HFY.out.2
              rw [HFY.out.1] at h1
              exact (Option.some.inj h1).symm⟩
            have HFA : Aside0 (∀ W' L', St w W' L' → ∀ n, L'[n]? = some (obR (Kd.int .i64) 3 w okf (.slice (some ⟨gf, 0, none⟩) F.length cf) F) → W'.cell? ⟨gf, ix, none⟩ = some (.int .i64 dz)) := ⟨fun W' L' hW n hn => by
              have h1 := (St.cellI hW n hn ix (by have := HFl.out; omega)).1
              rw [HFD.out] at h1
              exact h1⟩
            have hcf := HFA.out _ _ HSt.out 4 rfl
            have HDZ := Aside0.mk hdz
            by_cases h0 : 0 < d
            · have hdp : (0 : Int) < dz := by omega
              obtain ⟨e, rfl⟩ : ∃ e, d = e + 1 := ⟨d - 1, by omega⟩
              obtain ⟨hi1, hi2, hi3⟩ := stepI_ok HS.out HFY.out.1
              obtain ⟨hyw, hyl⟩ := far_word HS.out HFY.out.1
              have HYW := Aside0.mk hyw
              have HYL := Aside0.mk hyl
              obtain ⟨ns, hns⟩ : ∃ ns, ns = waysO y := ⟨_, rfl⟩
              rw [← hns] at hi1 hi3
              obtain ⟨q1, hq1⟩ : ∃ q, q = stepI s y e := ⟨_, rfl⟩
              rw [← hq1] at hi1 hi3
              have hnsb : ns.length ≤ 9 := by rw [hns]; exact (waysO_bd y).1
              have HNS := Aside0.mk hns
              have HQ1 := Aside0.mk hq1
              have HI2 := Aside0.mk hi2
              have HI3 := Aside0.mk hi3
              have ew : IntKind.i64.wrap (dz - 1) = (e : Int) := by rw [IntWalk.i64_in _ (by omega)]; omega
              obtain ⟨p, hp⟩ : ∃ p, ps[ix] = p := ⟨_, rfl⟩
              have hpm : p ∈ ps := by rw [← hp]; exact List.getElem_mem hix
              have hpr : p.r = y := by
                have h1 : (ps.map Rw.r)[ix]? = some p.r := by rw [List.getElem?_map, List.getElem?_eq_getElem hix, hp]; rfl
                rw [HR.out, HFY.out.2] at h1
                exact (Option.some.inj h1).symm
              have hx := (St.cellP HSt.out 2 rfl ix hix).1
              rw [hp] at hx
              obtain ⟨pk, pA, pc, pr⟩ := p
              obtain rfl : y = pr := hpr.symm
              change wr.cell? ⟨gl, ix, none⟩ = some (.slice pA y.length pc) at hx
              have HPM := Aside0.mk hpm
              clear hdz hyw hyl hns hq1 hi2 hi3 hp hpm hpr
              go_wp2_with (first
                | (go_at_call 24; refine (specWays_st (x := y) HSt.out (fun W' hW => St.readP hW 3 rfl HPM.out) (by have := HYL.out; have := HS9.out; omega)).mono ?_; rintro e w8 ⟨v8, ok8, ys5, rfl, ho5, hm5, h_⟩; have hys : ns = ys5 := (by rw [HNS.out]; unfold waysO; rw [if_pos HYW.out]; exact (ordOf_eq ho5 hm5).symm); subst hys; obtain ⟨nps, okn, oknp, hr8, hk8, h8⟩ := St.split h_ 0; have HNL : Aside0 (nps.length = ns.length) := ⟨by rw [← hr8, List.length_map]⟩; obtain ⟨gn, cn, e8, _, _⟩ := St.spine h8 0 rfl (by rw [HNL.out]; omega); subst e8; have HR8 := Aside0.mk hr8; have H9 := Aside0.mk h8; clear h_ h8 hr8 hk8 ho5 hm5))
              clear HSt hx hcf
              go_loopg [11] nps.length (fun kq v11 wr => ∃ (q : Nat), q ≤ q1 ∧ nps.length - q ≤ kq ∧ v11 = .int .i64 (q : Int) ∧ Aside0 (St w wr (obR spK 22 w okn (.slice (some ⟨gn, 0, none⟩) nps.length cn) nps :: obP w oknp nps :: obR spK 22 w ok (.slice (some ⟨g, 0, none⟩) os.length c1) os :: obP w okO os :: obR spK 22 w ok3 (.slice (some ⟨gl, 0, none⟩) ps.length cl) ps :: obP w okD ps :: obR (Kd.int .i64) 3 w okf (.slice (some ⟨gf, 0, none⟩) F.length cf) F :: L)))
              case atStart => exact ⟨0, Nat.zero_le _, by omega, rfl, H9⟩
              case round =>
                clear H9
                obtain ⟨q, hq, hgq, rfl, HSq⟩ := hrel
                have hqn : q < nps.length := by have := HNL.out; omega
                have hqz : (q : Int) < (nps.length : Int) := by omega
                have hq0 : (0 : Int) ≤ (q : Int) := by omega
                have hqw : IntKind.i64.wrap ((q : Int) + 1) = ((q + 1 : Nat) : Int) := by have := HNL.out; rw [IntWalk.i64_in _ (by omega)]; omega
                obtain ⟨z, hz⟩ : ∃ z, nps[q] = z := ⟨_, rfl⟩
                have HZM := Aside0.mk (show z ∈ nps by rw [← hz]; exact List.getElem_mem hqn)
                have hzr : ns[q]? = some z.r := by
                  have h1 : (nps.map Rw.r)[q]? = some z.r := by rw [List.getElem?_map, List.getElem?_eq_getElem hqn, hz]; rfl
                  rwa [HR8.out] at h1
                have hzg : ns.getD q [] = z.r := by rw [List.getD_eq_getElem?_getD, hzr]; rfl
                have hzw : z.r ∈ waysO y := by rw [← HNS.out]; exact List.mem_of_getElem? hzr
                have hzm := reach_closed HS9.out (List.mem_of_getElem? HFY.out.2) hzw
                have HZN : Aside0 (z.r.length = s.length) := ⟨by rw [(waysO_perm hzw).length_eq]; exact HYL.out⟩
                have HZG := Aside0.mk hzg
                obtain ⟨iz, hiz⟩ : ∃ i, i = (reachW s).1.idxOf z.r := ⟨_, rfl⟩
                have HIZ : Aside0 ((if z.r ∈ ps.map Rw.r then ((ps.map Rw.r).idxOf z.r : Int) else -1) = (iz : Int)) := ⟨by rw [HR.out, if_pos hzm, hiz]⟩
                have HIR : Aside0 ((reachW s).1[iz]? = some z.r) := ⟨by
                  have h1 := List.idxOf_lt_length_of_mem hzm
                  rw [hiz, List.getElem?_eq_getElem h1, List.getElem_idxOf h1]⟩
                obtain ⟨hl1, hl2⟩ := far_idx hzm
                rw [← hiz, ← HF.out] at hl1 hl2
                obtain ⟨fz, hfz⟩ : ∃ f, f = F.getD iz 0 := ⟨_, rfl⟩
                rw [← hfz] at hl2
                have HFZ := Aside0.mk hl2
                have HRZ : Aside0 (rd F (iz : Int) = fz) := ⟨by rw [rd_nat, hfz]⟩
                have hizz : (iz : Int) < (F.length : Int) := by omega
                have hiz0 : (0 : Int) ≤ (iz : Int) := by omega
                have HCZ : Aside0 (∀ W', St w W' (obR spK 22 w okn (.slice (some ⟨gn, 0, none⟩) nps.length cn) nps :: obP w oknp nps :: obR spK 22 w ok (.slice (some ⟨g, 0, none⟩) os.length c1) os :: obP w okO os :: obR spK 22 w ok3 (.slice (some ⟨gl, 0, none⟩) ps.length cl) ps :: obP w okD ps :: obR (Kd.int .i64) 3 w okf (.slice (some ⟨gf, 0, none⟩) F.length cf) F :: L) → W'.cell? ⟨gn, q, none⟩ = some (.slice z.A z.r.length z.c) ∧ W'.cell? ⟨gf, iz, none⟩ = some (.int .i64 fz) ∧ W'.cell? ⟨gf, ix, none⟩ = some (.int .i64 dz)) := ⟨fun W' hW => by
                  have h1 := (St.cellP hW 0 rfl q hqn).1
                  rw [hz] at h1
                  have h2 := (St.cellI hW 6 rfl iz hl1).1
                  rw [HRZ.out] at h2
                  exact ⟨h1, h2, HFA.out _ _ hW 6 rfl⟩⟩
                have HCN : Aside0 (∀ W' L', St w W' L' → ∀ n, L'[n]? = some (obR spK 22 w okn (.slice (some ⟨gn, 0, none⟩) nps.length cn) nps) → W'.cell? ⟨gn, q, none⟩ = some (.slice z.A z.r.length z.c)) := ⟨fun W' L' hW n hn => by
                  have h1 := (St.cellP hW n hn q hqn).1
                  rw [hz] at h1
                  exact h1⟩
                clear hz hzr hzg hzw hzm hiz hl1 hl2 hfz
                obtain ⟨zk, zA, zc, zr⟩ := z
                dsimp only at HZN HZG HIZ HIR HFZ HCZ HCN
                have HS1 := Aside0.mk (HSq.out.quiet (below_drew (Below.refl _ _)))
                have hpb : (ps.map Rw.r).length ≤ 1048576 := by rw [List.length_map]; omega
                have HPB := Aside0.mk hpb
                have HLR : Aside0 (∀ r ∈ ps.map Rw.r, r.length ≤ 1048576) := ⟨fun r hr => by rw [HR.out] at hr; rw [(bfs_perm s capW r hr).length_eq]; exact HLS.out⟩
                clear hpb
                by_cases hqq : q = q1
                · have hfe : fz = (e : Int) := by
                    have h1 := HI2.out
                    unfold stepW at h1
                    rw [← HQ1.out, ← HNS.out, ← hqq, HZG.out, HFZ.out] at h1
                    exact Option.some.inj h1
                  subst hfe
                  have HSW : Aside0 (stepW s y e = zr) := ⟨by unfold stepW; rw [← HQ1.out, ← HNS.out, ← hqq]; exact HZG.out⟩
                  clear hqq HSq
                  go_wp2_with fail
                  go_region_held3 (fun W => W.cell? ⟨gn, q, none⟩ = some (.slice zA zr.length zc) ∧ W.cell? ⟨gf, iz, none⟩ = some (.int .i64 (e : Int)) ∧ W.cell? ⟨gf, ix, none⟩ = some (.int .i64 dz)) (first | exact HCZ.out _ HS1.out | exact HCZ.out _ H11.out)
                    (first | (go_at_call 23; refine (index_st HS1.out (St.readSP HS1.out 4 5 rfl rfl (fun _ h => h)) (St.readP HS1.out 1 rfl HZM.out) HPB.out HLR.out HIZ.out).mono ?_; rintro e w10 ⟨rfl, h_⟩; have H11 := Aside0.mk h_; clear h_))
                  have hc11 := HCN.out _ _ H11.out 0 rfl
                  have hb1 : (os.length + 1) * 24 ≤ 140737488355328 := by omega
                  clear HS1
                  go_wp2_with (first
                    | (go_at_call 23; refine (index_st H11.out (St.readSP H11.out 4 5 rfl rfl (fun _ h => h)) (St.readP H11.out 1 rfl HZM.out) HPB.out HLR.out HIZ.out).mono ?_; rintro e w12 ⟨rfl, h_⟩; have H12 := Aside0.mk h_; clear h_)
                    | ((with_reducible refine gate_dst (N := 75) rfl ?_); refine St.litNil (N := 75) rfl rfl ?hr H12.out ?_; (case hr => first | (go_simp; done) | (go_simp; rfl)); intro v14 w14 ok14 h_; have hc14 := HCN.out _ _ h_ 1 rfl; have H14 := Aside0.mk h_; clear h_)
                    | (at_builtin; refine St.putInts rfl (.tmp 75) (.tmp 79) rfl H14.out 0 rfl rfl rfl (by obtain ⟨A5, c5, e5, _, h5⟩ := (show Reads (Kd.int .i64) _ (.slice zA zr.length zc) zr from St.readP H14.out 2 rfl HZM.out); injection e5 with e5 _ _; rw [← e5] at h5; exact h5) (by simp only [List.length_nil]; have := HZN.out; have := HS9.out; omega) ?_; intro v15 w15 ok15 h_; have h15 : St w w15 (obR (Kd.int .i64) 3 w ok15 v15 zr :: obR spK 22 w okn (.slice (some ⟨gn, 0, none⟩) nps.length cn) nps :: obP w oknp nps :: obR spK 22 w ok (.slice (some ⟨g, 0, none⟩) os.length c1) os :: obP w okO os :: obR spK 22 w ok3 (.slice (some ⟨gl, 0, none⟩) ps.length cl) ps :: obP w okD ps :: obR (Kd.int .i64) 3 w okf (.slice (some ⟨gf, 0, none⟩) F.length cf) F :: L) := h_; clear h_; obtain ⟨A15, c15, e15, _, _⟩ := St.readR h15 0 rfl; subst e15; have H15 := Aside0.mk h15; clear h15)
                    | (at_builtin; refine St.addP rfl (.tmp 74) (.tmp 81) rfl ⟨os.length + 0, A15, c15, zr⟩ H15.out 3 rfl rfl rfl hb1 ?_; intro v16 w16 ok16 h_; obtain ⟨g16, c16, e16, hc16, _⟩ := St.spine h_ 3 rfl (by simp); subst e16; obtain ⟨ok17, h17⟩ := St.intoPool h_ 3 rfl (os.length + 0); have H17 := Aside0.mk (St.less h17 (.cons _ (.cons _ (List.Sublist.refl _)))); clear h_ h17))
                  have HQ2 : Aside0 ((os ++ [Rw.mk (os.length + 0) A15 c15 zr]).map Rw.r ++ (pathW s e zr).drop 1 = pathW s d0 x ∧ (os ++ [Rw.mk (os.length + 0) A15 c15 zr]).map Rw.k = (List.range (os ++ [Rw.mk (os.length + 0) A15 c15 zr]).length).map (· + 0)) := ⟨by
                    refine ⟨?_, ?_⟩
                    · rw [← HO.out.1, drop_one, HSW.out, List.map_append, List.append_assoc]; rfl
                    · rw [List.map_append, HO.out.2, List.length_append, List.length_singleton, List.range_succ, List.map_append]; rfl⟩
                  have HL2 : Aside0 ((os ++ [Rw.mk (os.length + 0) A15 c15 zr]).length = os.length + 1) := ⟨by simp⟩
                  generalize os ++ [Rw.mk (os.length + 0) A15 c15 zr] = os2 at *
                  go_roundg e
                  case measure => omega
                  case rel => exact ⟨e, iz, g16, c16, zr, os2, ok16, ok17, Nat.le_refl _, by omega, rfl, by rw [HL2.out], hc16, by have := HL2.out; omega, by have := HFl.out; omega, HQ2, ⟨HFZ.out, HIR.out⟩, ⟨by rw [← HL2.out]; exact H17.out⟩⟩
                · have hne : ¬ fz = (e : Int) := by
                    intro h
                    have h1 := HI3.out q (by omega)
                    rw [HZG.out] at h1
                    exact h1 (by rw [HFZ.out, h])
                  have hfe : (fz == (e : Int)) = false := beq_eq_false_iff_ne.mpr hne
                  have hqs : q + 1 ≤ q1 := by omega
                  clear hqq hne HSq
                  go_wp2_with fail
                  go_region_held3 (fun W => W.cell? ⟨gn, q, none⟩ = some (.slice zA zr.length zc) ∧ W.cell? ⟨gf, iz, none⟩ = some (.int .i64 fz) ∧ W.cell? ⟨gf, ix, none⟩ = some (.int .i64 dz)) (first | exact HCZ.out _ HS1.out | exact HCZ.out _ H11.out)
                    (first | (go_at_call 23; refine (index_st HS1.out (St.readSP HS1.out 4 5 rfl rfl (fun _ h => h)) (St.readP HS1.out 1 rfl HZM.out) HPB.out HLR.out HIZ.out).mono ?_; rintro e w10 ⟨rfl, h_⟩; have H11 := Aside0.mk h_; clear h_))
                  clear HS1
                  go_wp2
                  go_roundg (nps.length - (q + 1))
                  case measure => omega
                  case rel => exact ⟨q + 1, hqs, Nat.le_refl _, by go_num, H11⟩
            · have hd0 : d = 0 := by omega
              subst hd0
              have hdn : ¬ (0 : Int) < dz := by omega
              clear hdz
              have HRR : Aside0 (os.map Rw.r = pathF x s) := ⟨by rw [HY.out.1, ← HO.out.1]; show _ = _ ++ []; rw [List.append_nil]⟩
              obtain ⟨ok9, h9⟩ := St.join HSt.out (fun _ h => h) (by rw [HO.out.2]; exact marks_nodup _ _)
              have H9 := Aside0.mk (St.less h9 (.cons_cons _ (.cons _ (.cons _ (.cons _ (List.Sublist.refl _))))))
              clear h9 HSt
              go_wp2
              go_ret2
              exact ⟨_, by rw [HY.out.2] <;> rfl, ok9, by rw [← HRR.out]; exact H9.out⟩
        · have HF := Aside0.mk (HNO.out (fun h => hm h.2.2.2))
          have HM := Aside0.mk hm
          clear hx hs hm hs9
          go_enter Tryd.func13, Tryd.ntmps13
          go_wp2_with (first
            | (go_at_call 15; (with_reducible refine (specIsWord_st H0.out (HU.out _ H0.out) HLX.out HX.out).mono ?_); rintro e w1 ⟨rfl, h_⟩; have H1 := Aside0.mk h_; clear h_)
            | (go_at_call 15; (with_reducible refine (specIsWord_st H1.out (HU2.out _ H1.out) HLS.out HS.out).mono ?_); rintro e w2 ⟨rfl, h_⟩; have H2 := Aside0.mk h_; clear h_)
            | (go_at_call 16; refine (specReach_st H2.out HU2.out HS.out HS9.out).mono ?_; rintro e w3 ⟨v3, v4, ok3, okD, okf, ps, rfl, hr_, hk_, h_⟩; have H3 := Aside0.mk h_; have HR := Aside0.mk hr_; clear h_ hr_ hk_)
            | (go_at_call 23; refine (index_st (q := -1) H3.out (St.readSP H3.out 0 1 rfl rfl (fun _ h => h)) (HU.out _ (St.drop_ (St.drop_ (St.drop_ H3.out)))) (by rw [HR.out]; have := bfs_few s HS9.out capW; exact Nat.le_trans this (by decide)) (fun r hr => by rw [HR.out] at hr; rw [(bfs_perm s capW r hr).length_eq]; exact HLS.out) (by rw [HR.out, if_neg HM.out])).mono ?_; rintro e w4 ⟨rfl, h_⟩; have H4 := Aside0.mk h_; clear h_)
            | ((with_reducible refine gate_dst (N := 36) rfl ?_); refine St.lit0 (Kd.slice 3 (Kd.int .i64)) 22 (N := 36) rfl rfl ?hr H4.out ?_; (case hr => first | (go_simp; done) | (go_simp; rfl)); intro v5 w5 ok5 h_; have H5 := Aside0.mk h_; clear h_))
          go_ret2
          exact ⟨_, ok5, by rw [HF.out.2] <;> rfl, by rw [HF.out.1]; exact St.less H5.out (.cons_cons _ (.cons _ (.cons _ (.cons _ (List.Sublist.refl _)))))⟩
      · have h7z : (7 : Int) < (N : Int) := by omega
        have HF := Aside0.mk (HNO.out (fun h => h7 (by rw [HN.out]; exact h.2.2.1)))
        clear hx hs hs9
        go_enter Tryd.func13, Tryd.ntmps13
        go_wp2_with (first
          | (go_at_call 15; (with_reducible refine (specIsWord_st H0.out (HU.out _ H0.out) HLX.out HX.out).mono ?_); rintro e w1 ⟨rfl, h_⟩; have H1 := Aside0.mk h_; clear h_)
          | (go_at_call 15; (with_reducible refine (specIsWord_st H1.out (HU2.out _ H1.out) HLS.out HS.out).mono ?_); rintro e w2 ⟨rfl, h_⟩; have H2 := Aside0.mk h_; clear h_)
          | ((with_reducible refine gate_dst (N := 25) rfl ?_); refine St.lit0 (Kd.slice 3 (Kd.int .i64)) 22 (N := 25) rfl rfl ?hr H2.out ?_; (case hr => first | (go_simp; done) | (go_simp; rfl)); intro v5 w5 ok5 h_; have H5 := Aside0.mk h_; clear h_))
        go_ret2
        exact ⟨_, ok5, by rw [HF.out.2] <;> rfl, by rw [HF.out.1]; exact H5.out⟩
    · have HS : Aside0 (isWord s = false) := ⟨by simpa using hs⟩
      have HF := Aside0.mk (HNO.out (fun h => hs h.2.1))
      clear hx hs
      go_enter Tryd.func13, Tryd.ntmps13
      go_wp2_with (first
        | (go_at_call 15; (with_reducible refine (specIsWord_st H0.out (HU.out _ H0.out) HLX.out HX.out).mono ?_); rintro e w1 ⟨rfl, h_⟩; have H1 := Aside0.mk h_; clear h_)
        | (go_at_call 15; (with_reducible refine (specIsWord_st H1.out (HU2.out _ H1.out) HLS.out HS.out).mono ?_); rintro e w2 ⟨rfl, h_⟩; have H2 := Aside0.mk h_; clear h_)
        | ((with_reducible refine gate_dst (N := 25) rfl ?_); refine St.lit0 (Kd.slice 3 (Kd.int .i64)) 22 (N := 25) rfl rfl ?hr H2.out ?_; (case hr => first | (go_simp; done) | (go_simp; rfl)); intro v5 w5 ok5 h_; have H5 := Aside0.mk h_; clear h_))
      go_ret2
      exact ⟨_, ok5, by rw [HF.out.2] <;> rfl, by rw [HF.out.1]; exact H5.out⟩
  · have HX : Aside0 (isWord x = false) := ⟨by simpa using hx⟩
    have HF := Aside0.mk (HNO.out (fun h => hx h.1))
    clear hx
    go_enter Tryd.func13, Tryd.ntmps13
    go_wp2_with (first
      | (go_at_call 15; (with_reducible refine (specIsWord_st H0.out (HU.out _ H0.out) HLX.out HX.out).mono ?_); rintro e w1 ⟨rfl, h_⟩; have H1 := Aside0.mk h_; clear h_)
      | ((with_reducible refine gate_dst (N := 25) rfl ?_); refine St.lit0 (Kd.slice 3 (Kd.int .i64)) 22 (N := 25) rfl rfl ?hr H1.out ?_; (case hr => first | (go_simp; done) | (go_simp; rfl)); intro v5 w5 ok5 h_; have H5 := Aside0.mk h_; clear h_))
    go_ret2
    exact ⟨_, ok5, by rw [HF.out.2] <;> rfl, by rw [HF.out.1]; exact H5.out⟩
end
end Go.Proofs.YthdoglkdcbghpaaDoor.Q

set_option linter.unusedVariables false
set_option linter.unusedSimpArgs false
namespace Go.Proofs.YthdoglkdcbghpaaDoor.Q
open Go.RowKit Go.Proofs.YthdoglkdcbghpaaDoor.F Go.Proofs.YthdoglkdcbghpaaDoorW.PrintWords Go.Proofs.YthdoglkdcbghpaaDoorW.PrintLast Go.Proofs.YthdoglkdcbghpaaDoorW.PrintMore
theorem bulk_le9 {m : List (List Int)} : ∀ (_ : ∀ r ∈ m, r.length ≤ 9), bulk m ≤ 9 * m.length := by
  induction m with
  | nil => intro _; simp [bulk]
  | cons r m ih =>
    intro h
    have h1 := h r (by simp)
    have h2 := ih (fun s hs => h s (by simp [hs]))
    simp only [bulk, List.length_cons]
    omega
end Go.Proofs.YthdoglkdcbghpaaDoor.Q

set_option linter.unusedVariables false
set_option linter.unusedSimpArgs false
namespace Go.Proofs.YthdoglkdcbghpaaDoor.Q
open Go.RowKit Go.Proofs.YthdoglkdcbghpaaDoor.F Go.Proofs.YthdoglkdcbghpaaDoorW.PrintWords Go.Proofs.YthdoglkdcbghpaaDoorW.PrintLast Go.Proofs.YthdoglkdcbghpaaDoorW.PrintMore
section
open Go.ChangeShapes Go.WideShapes
variable {H : Type} {enc : TypeId × Value → H} {P : Program} {W : World}
theorem open_ints_C {t e : TypeId} {k : IntKind} {fuel : Nat} {v : Value} {x : DataW H × List MemPlace} (ht : P.underlying t = some (.slice e)) (he : P.underlying e = some (.int k)) (hc : P.cellsOf e = 1)
    (h : DataW.trod enc P W 0 (fun _ => true) true fuel t [v] = some x) :
    ∃ (a : Option Addr) (l : List Int) (cap : Nat), v = .slice a l.length cap ∧ l.length ≤ cap ∧ l.length ≤ maxLen ∧ (Kd.int k).C W a l.length l ∧ ∀ n ∈ l, (Lit.int k n).wf = true := by
  rcases open_ints ht he hc h with ⟨hcs, _⟩ | ⟨a, len, cap, zs, hcs, _, hl, hm, hz, _, hcell, hw⟩
  · obtain rfl : v = .slice none 0 0 := by simpa using hcs
    exact ⟨none, [], 0, rfl, Nat.le_refl _, Nat.zero_le _, Kd.C_nil _ _, by simp⟩
  · obtain rfl : v = .slice (some a) len cap := by simpa using hcs
    simp only [if_true] at hz
    have hlen : (zs.take len).length = len := by rw [List.length_take, hz]; omega
    refine ⟨some a, zs.take len, cap, by rw [hlen], by rw [hlen]; exact hl, by rw [hlen]; omega, ⟨rfl, by rw [hlen]; unfold maxLen at hm; omega, fun _ => ⟨a, rfl, fun j p hj => ?_⟩⟩, fun n hn => hw n (List.mem_of_mem_take hn)⟩
    have hjl : j < len := by have := (List.getElem?_eq_some_iff.1 hj).1; omega
    refine ⟨[.int k p], rfl, rfl, fun i u hu => ?_⟩
    cases i with
    | zero =>
      obtain rfl : Value.int k p = u := by simpa using hu
      have := hcell j (by omega)
      rw [show j * (Kd.int k).sz + 0 = j from by show j * 1 + 0 = j; omega, this]
      rw [List.getElem?_take, if_pos hjl] at hj
      rw [List.getD_eq_getElem?_getD, hj]; rfl
    | succ i => simp at hu
theorem open_rows_C {t e q : TypeId} {k : IntKind} {fuel : Nat} {v : Value} {x : DataW H × List MemPlace} (ht : P.underlying t = some (.slice e)) (he : P.underlying e = some (.slice q)) (hq : P.underlying q = some (.int k))
    (ce : P.cellsOf e = 1) (cq : P.cellsOf q = 1) (h : DataW.trod enc P W 0 (fun _ => true) true fuel t [v] = some x) :
    ∃ (a : Option Addr) (l : List (List Int)) (cap : Nat), v = .slice a l.length cap ∧ l.length ≤ cap ∧ l.length ≤ maxLen ∧ (Kd.slice q (Kd.int k)).C W a l.length l ∧ (∀ r ∈ l, r.length ≤ maxLen) ∧ ∀ r ∈ l, ∀ n ∈ r, (Lit.int k n).wf = true := by
  rcases Go.Deep.open_int_rows ht he hq ce cq h with ⟨hcs, _⟩ | ⟨a, len, cap, A, L, C, Z, hcs, _, hl, hm, _, hrow⟩
  · obtain rfl : v = .slice none 0 0 := by simpa using hcs
    exact ⟨none, [], 0, rfl, Nat.le_refl _, Nat.zero_le _, Kd.C_nil _ _, by simp, by simp⟩
  · obtain rfl : v = .slice (some a) len cap := by simpa using hcs
    have hlen : ((List.range len).map fun r => (Z r).take (L r)).length = len := by simp
    have hel : ∀ r, r < len → ((Z r).take (L r)).length = L r := by
      intro r hr
      obtain ⟨_, h1, _, h3, _⟩ := hrow r (by omega)
      rw [List.length_take, h3]; omega
    refine ⟨some a, (List.range len).map fun r => (Z r).take (L r), cap, by rw [hlen], by rw [hlen]; exact hl, by rw [hlen]; omega, ⟨rfl, by rw [hlen]; unfold maxLen at hm; omega, fun _ => ⟨a, rfl, fun j p hj => ?_⟩⟩, ?_, ?_⟩
    · have hjl : j < len := by have := (List.getElem?_eq_some_iff.1 hj).1; omega
      have hp : (Z j).take (L j) = p := by
        rw [List.getElem?_map, List.getElem?_range hjl] at hj
        simpa using hj
      subst hp
      obtain ⟨h0, h1, h2, h3, h4, h5, h6⟩ := hrow j (by omega)
      have hL := hel j hjl
      refine ⟨[.slice (A j) (L j) (C j)], rfl, ⟨A j, C j, by rw [hL], by rw [hL]; exact h1, rfl, by rw [hL]; unfold maxLen at h2; omega, fun hpos => ?_⟩, fun i u hu => ?_⟩
      · rw [hL] at hpos
        cases hA : A j with
        | none => have := h5 hA; omega
        | some a' =>
          refine ⟨a', rfl, fun c y hc => ?_⟩
          have hcl : c < L j := by have := (List.getElem?_eq_some_iff.1 hc).1; omega
          refine ⟨[.int k y], rfl, rfl, fun i u hu => ?_⟩
          cases i with
          | zero =>
            obtain rfl : Value.int k y = u := by simpa using hu
            rw [show c * (Kd.int k).sz + 0 = c from by show c * 1 + 0 = c; omega, (h6 a' hA).2 c (by omega)]
            rw [List.getElem?_take, if_pos hcl] at hc
            rw [List.getD_eq_getElem?_getD, hc]; rfl
          | succ i => simp at hu
      · cases i with
        | zero =>
          obtain rfl : Value.slice (A j) (L j) (C j) = u := by simpa using hu
          rw [show j * (Kd.slice q (Kd.int k)).sz + 0 = j from by show j * 1 + 0 = j; omega]
          exact h0
        | succ i => simp at hu
    · intro r hr
      obtain ⟨j, hj, rfl⟩ := List.mem_map.1 hr
      have hjl := List.mem_range.1 hj
      obtain ⟨_, h1, h2, _⟩ := hrow j (by omega)
      rw [hel j hjl]; omega
    · intro r hr n hn
      obtain ⟨j, hj, rfl⟩ := List.mem_map.1 hr
      have hjl := List.mem_range.1 hj
      obtain ⟨_, _, _, _, h4, _⟩ := hrow j (by omega)
      exact h4 n (List.mem_of_mem_take hn)
end
end Go.Proofs.YthdoglkdcbghpaaDoor.Q
