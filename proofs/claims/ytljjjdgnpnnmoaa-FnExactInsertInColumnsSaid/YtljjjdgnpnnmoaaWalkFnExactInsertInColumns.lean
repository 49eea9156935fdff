/- The walk of the law on InsertInColumns, over what the law holds; condition: the law's pure statement, told below. -/
import Derived.Test.YtljjjdgnpnnmoaaF11
import Derived.Test.YtljjjdgnpnnmoaaF8
import Derived.Test.YtljjjdgnpnnmoaaQAll
set_option linter.unusedVariables false
set_option linter.unusedSimpArgs false
namespace Go.Proofs.Ytljjjdgnpnnmoaa.Walk
open Go.RowKit Go.Proofs.Ytljjjdgnpnnmoaa.F Go.Proofs.YtljjjdgnpnnmoaaW.PrintWords Go.Proofs.YtljjjdgnpnnmoaaW.PrintLast Go.Proofs.YtljjjdgnpnnmoaaW.PrintMore Go.Proofs.Ytljjjdgnpnnmoaa.Q
theorem impl_isPlain_st {w W : World} {L : List Ob} {v0_0 v0_1 : Value} (l0_0 : List Int) (l0_1 : List (List Int)) {r : Bool} (h : St w W L) (hr0_0 : Reads (Kd.int .i64) W v0_0 l0_0) (hr0_1 : Reads (Kd.slice 3 (Kd.int .i64)) W v0_1 l0_1) (hE : Ev (fun k => impl_isPlain.f k l0_0 l0_1) r) :
    Calls Try.prog 63 #[.agg #[v0_0, v0_1]] W fun e W' => e = .returned (.bool r) ∧ St w W' L := by
  obtain ⟨A0_0, c0_0, rfl, hc0_0, hC0_0⟩ := hr0_0
  obtain ⟨A0_1, c0_1, rfl, hc0_1, hC0_1⟩ := hr0_1
  obtain ⟨K, hK⟩ := hE
  refine (impl_isPlain.calls K A0_0 c0_0 l0_0 A0_1 c0_1 l0_1 r W hC0_0 hc0_0 hC0_1 hc0_1 (hK K (Nat.le_refl _))).mono ?_
  rintro e W' ⟨rfl, hb⟩
  exact ⟨rfl, h.quiet hb⟩
theorem impl_within_st {w W : World} {L : List Ob}  (a0 : Int) (a1 : Int) (a2 : Int) {r : Bool} (h : St w W L)  (hE : impl_within.f a0 a1 a2 = some r) :
    Calls Try.prog 64 #[.int .i64 a0, .int .i64 a1, .int .i64 a2] W fun e W' => e = .returned (.bool r) ∧ St w W' L := by
  refine (impl_within.calls a0 a1 a2 r W hE).mono ?_
  rintro e W' ⟨rfl, hb⟩
  exact ⟨rfl, h.quiet hb.below⟩
theorem impl_ReadingWord_st {w W : World} {L : List Ob} {v0_0 v0_1 : Value} (l0_0 : List Int) (l0_1 : List (List Int)) {r : List Int} (h : St w W L) (hr0_0 : Reads (Kd.int .i64) W v0_0 l0_0) (hr0_1 : Reads (Kd.slice 3 (Kd.int .i64)) W v0_1 l0_1) (hE : Ev (fun k => impl_ReadingWord.f k l0_0 l0_1) r) :
    Calls Try.prog 16 #[.agg #[v0_0, v0_1]] W fun e W' => ∃ v0_ : Value, ∃ ok0, e = .returned (v0_) ∧ St w W' (obR (Kd.int .i64) 3 w ok0 v0_ r :: L) := by
  obtain ⟨A0_0, c0_0, rfl, hc0_0, hC0_0⟩ := hr0_0
  obtain ⟨A0_1, c0_1, rfl, hc0_1, hC0_1⟩ := hr0_1
  obtain ⟨K, hK⟩ := hE
  refine (impl_ReadingWord.calls K A0_0 c0_0 l0_0 A0_1 c0_1 l0_1 r W hC0_0 hc0_0 hC0_1 hc0_1 (hK K (Nat.le_refl _))).mono ?_
  rintro e W' ⟨v0_, rfl, o0, hb⟩
  obtain ⟨ok0, h1⟩ := h.addR hb o0
  exact ⟨v0_, ok0, rfl, h1⟩
theorem impl_columnsOf_st {w W : World} {L : List Ob} {v0_0 v0_1 : Value} (l0_0 : List Int) (l0_1 : List (List Int)) {r : List (List Int)} (h : St w W L) (hr0_0 : Reads (Kd.int .i64) W v0_0 l0_0) (hr0_1 : Reads (Kd.slice 3 (Kd.int .i64)) W v0_1 l0_1) (hE : Ev (fun k => impl_columnsOf.f k l0_0 l0_1) r) :
    Calls Try.prog 67 #[.agg #[v0_0, v0_1]] W fun e W' => ∃ v0_ : Value, ∃ ok0, e = .returned (v0_) ∧ St w W' (obS (Kd.slice 3 (Kd.int .i64)) 22 w ok0 v0_ r :: L) := by
  obtain ⟨A0_0, c0_0, rfl, hc0_0, hC0_0⟩ := hr0_0
  obtain ⟨A0_1, c0_1, rfl, hc0_1, hC0_1⟩ := hr0_1
  obtain ⟨K, hK⟩ := hE
  refine (impl_columnsOf.calls K A0_0 c0_0 l0_0 A0_1 c0_1 l0_1 r W hC0_0 hc0_0 hC0_1 hc0_1 (hK K (Nat.le_refl _))).mono ?_
  rintro e W' ⟨v0_, rfl, o0, hb⟩
  obtain ⟨ok0, h1⟩ := h.addS hb o0
  exact ⟨v0_, ok0, rfl, h1⟩
theorem impl_ofColumns_st {w W : World} {L : List Ob} {v0 : Value} (l0 : List (List Int)) {r1 : List Int} {r2 : List (List Int)} (h : St w W L) (hr0 : Reads (Kd.slice 3 (Kd.int .i64)) W v0 l0) (hE : Ev (fun k => impl_ofColumns.f k l0) (r1, r2)) :
    Calls Try.prog 65 #[v0] W fun e W' => ∃ v0_ v1_ : Value, ∃ ok0 ok1, e = .returned (.agg #[v0_, v1_]) ∧ St w W' (obR (Kd.int .i64) 3 w ok0 v0_ r1 :: obS (Kd.slice 3 (Kd.int .i64)) 22 w ok1 v1_ r2 :: L) := by
  obtain ⟨A0, c0, rfl, hc0, hC0⟩ := hr0
  obtain ⟨K, hK⟩ := hE
  refine (impl_ofColumns.calls K A0 c0 l0 r1 r2 W hC0 hc0 (hK K (Nat.le_refl _))).mono ?_
  rintro e W' ⟨v0_, v1_, rfl, o0, o1, hb⟩
  obtain ⟨ok0, ok1, h1⟩ := St.addRS rfl h hb o0 o1
  exact ⟨v0_, v1_, ok0, ok1, rfl, h1⟩
section
variable {w W w1 : World} {L L' : List Ob} {b t : Nat} {x0 x1 : Value} {o o' o'' : Ob}
theorem St.put2 (h : St w W L) (i : Nat) (hi : L[i]? = some (obB b #[x0, x1] t)) (u0 u1 : Value) : St w ((W.setCell ⟨b, 0, none⟩ u0).setCell ⟨b, 1, none⟩ u1) (L.set i (obB b #[u0, u1] t)) := by
  have hb : w.heap.size ≤ b := ((h.own _ (List.mem_of_getElem? hi)).1 b rfl).1
  refine h.mark (o' := obB b #[u0, u1] t) i hi rfl firmB (below_set (below_set h.below hb) hb) ⟨by simp [World.setCell], fun k _ hk => ?_⟩ (blk_put (cs' := #[u0, u1]) (blk_put (cs' := #[u0, x1]) (show W.heap[b]? = some (.cells #[x0, x1] t (0, 0)) from h.get i hi) 0 _ rfl) 1 _ rfl) rfl
  have hk' : k ≠ b := hk
  exact (Below.heap_setCell _ _ _ _ hk').trans (Below.heap_setCell _ _ _ _ hk')
theorem St.addB (h : St w W L) {cs : Array Value} {W' : World} (hx : W'.heap[b]? = some (.cells cs t (0, 0))) (hb : b = W.heap.size) (hl : Below W.heap.size W W') : St w W' (obB b cs t :: L) :=
  h.add (o := obB b cs t) hl (fun k hk => by have h1 : k = b := hk; have h2 := blk_lt hx; omega) hx firmB
theorem St.heapB (h : St w W L) {cs : Array Value} (i : Nat) (hi : L[i]? = some (obB b cs t)) : W.heap[b]? = some (.cells cs t (0, 0)) := h.get i hi
theorem St.giveRS {α β : Type} {d : Kd α} {d' : Kd β} {t' : Nat} {ok0 ok1 : Nat → Prop} {v0 v1 : Value} {xs : List α} {ys : List β} (h : St w W L) (i j : Nat) (hij : i < j) (hi : L[i]? = some (obR d t w ok0 v0 xs)) (hj : L[j]? = some (obS d' t' w ok1 v1 ys)) :
    Kd.R d t W w.heap.size (fun _ => True) v0 xs ∧ Kd.S d' t' W w.heap.size (fun k_ => some k_ ≠ (v0 : Value).ownBlock) v1 ys ∧ Below w.heap.size w W := by
  have hR : Kd.R d t W w.heap.size ok0 v0 xs := h.get i hi
  have hS : Kd.S d' t' W w.heap.size ok1 v1 ys := h.get j hj
  refine ⟨Kd.R_mono hR (fun _ _ => trivial), Kd.S_mono hS (fun k hk e => ?_), h.below⟩
  obtain ⟨hil, hi'⟩ := List.getElem?_eq_some_iff.1 hi
  obtain ⟨hjl, hj'⟩ := List.getElem?_eq_some_iff.1 hj
  have hp := List.pairwise_iff_getElem.1 h.apart i j hil hjl hij k
  rw [hi', hj'] at hp
  exact hp (hR.1 k e.symm) hk
theorem St.growS {α : Type} {d : Kd α} {ok : Nat → Prop} {v v1 : Value} {xs zs : List α} (h : St w W L) (i : Nat) (hi : L[i]? = some (obS d t w ok v xs)) (hS : Kd.S d t w1 w.heap.size (fun k => ok k ∨ W.heap.size ≤ k) v1 zs) (hg : Kept W w1 (fun k => ok k)) (hB : Below w.heap.size w w1) : ∃ ok', St w w1 (L.set i (obS d t w ok' v1 zs)) := by
  obtain ⟨hil, hio⟩ := List.getElem?_eq_some_iff.1 hi
  have hap : ∀ j (hj : j < L.length), j ≠ i → ∀ k, ok k → ¬ (L[j]).ok k := by
    intro j hj hne k hk hk2
    have hp := List.pairwise_iff_getElem.1 h.apart
    rcases Nat.lt_or_gt_of_ne hne with hlt | hlt
    · have := hp j i hj hil hlt k hk2
      rw [hio] at this
      exact this hk
    · have := hp i j hil hj hlt k
      rw [hio] at this
      exact this hk hk2
  refine ⟨fun k => (ok k ∨ W.heap.size ≤ k) ∧ k < w1.heap.size ∧ w.heap.size ≤ k, hB, fun p hp => ?_, List.pairwise_iff_getElem.2 fun a c ha hc hlt k => ?_⟩
  · obtain ⟨j, hj, rfl⟩ := List.mem_iff_getElem.1 hp
    rw [List.length_set] at hj
    by_cases hji : i = j
    · subst hji
      rw [List.getElem_set_self]
      exact ⟨fun k hk => ⟨hk.2.2, hk.2.1⟩, Kd.S_mono (Kd.S_bound hS) (fun k hk => ⟨hk.1, hk.2.2.1, hk.2.1⟩), firmS⟩
    · rw [List.getElem_set_ne hji]
      obtain ⟨h1, h2, h3⟩ := h.own L[j] (List.getElem_mem hj)
      exact ⟨fun k hk => ⟨(h1 k hk).1, Nat.lt_of_lt_of_le (h1 k hk).2 hg.1⟩, h3 W w1 h2 (fun k hk hlt => hg.2 k hlt (fun e => hap j hj (Ne.symm hji) k e hk)), h3⟩
  · rw [List.length_set] at ha hc
    have hlow : ∀ j (hj : j < L.length) k, (L[j]).ok k → k < W.heap.size := fun j hj k hk => ((h.own L[j] (List.getElem_mem hj)).1 k hk).2
    by_cases hia : i = a
    · subst hia
      have hic : i ≠ c := by omega
      rw [List.getElem_set_self, List.getElem_set_ne hic]
      intro hk hk2
      rcases hk.1 with h1 | h1
      · exact hap c hc (Ne.symm hic) k h1 hk2
      · have := hlow c hc k hk2
        omega
    · rw [List.getElem_set_ne hia]
      by_cases hic : i = c
      · subst hic
        rw [List.getElem_set_self]
        intro hk2 hk
        rcases hk.1 with h1 | h1
        · exact hap a ha (Ne.symm hia) k h1 hk2
        · have := hlow a ha k hk2
          omega
      · rw [List.getElem_set_ne hic]
        exact List.pairwise_iff_getElem.1 h.apart a c ha hc hlt k
end
theorem insertBelow_st {w W : World} {L : List Ob} {ok : Nat → Prop} {v : Value} {C : List (List Int)} (h : St w W L) (i : Nat) (hi : L[i]? = some (obS (Kd.slice 3 (Kd.int .i64)) 22 w ok v C)) (x : Int) (hl : C.length ≤ 1000) (hr : ∀ r ∈ C, r.length ≤ 1000) :
    Calls Try.prog 66 #[v, .int .i64 x] W fun e W' => ∃ v' ok', e = .returned v' ∧ St w W' (L.set i (obS (Kd.slice 3 (Kd.int .i64)) 22 w ok' v' (insCols C x))) := by
  refine (insertBelow_calls w W v C x ok h.below (h.get i hi) hl hr).mono ?_
  rintro e W' ⟨v', rfl, hS, hB, hK⟩
  obtain ⟨ok', h1⟩ := St.growS h i hi hS hK hB
  exact ⟨v', ok', rfl, h1⟩
theorem plain_len {n : List Int} {m : List (List Int)} (h : plainT n m = true) : (if isTab n m = true then readAll m else []).length = m.flatten.length ∧ m.flatten.length ≤ 9 := by
  obtain ⟨rfl, ht⟩ := plainT_iff.1 h
  rw [if_pos ht, readAll_bulk, ← flatten_bulk]
  exact ⟨rfl, (plain_shape ht).2.2⟩
theorem ins_small {m : List (List Int)} (h : isTab [] m = true) (x : Int) : (cols m).length ≤ 9 ∧ (∀ c ∈ cols m, c.length ≤ 9) ∧ (insCols (cols m) x).length ≤ 10 ∧ ∀ c ∈ insCols (cols m) x, c.length ≤ 10 := by
  obtain ⟨h1, h2, _⟩ := isTab_cells h
  obtain ⟨g1, g2⟩ := cols_bd 9 m h2
  have g3 : ∀ c ∈ cols m, c.length ≤ 9 := fun c hc => Nat.le_trans (g2 c hc).2 h1
  obtain ⟨g4, g5⟩ := insCols_bd (cols m) x 9 g3
  exact ⟨g1, g3, by omega, g5⟩
def impl_InsertInColumns.f (l0_0 : List Int) (l0_1 : List (List Int)) (a1 : Int) : Option (List Int × List (List Int) × Bool) := if l0_0.length ≤ 1048576 ∧ l0_1.length ≤ 1048576 ∧ bulk l0_1 ≤ 1048576 then some (insIC l0_0 l0_1 a1) else none
set_option maxHeartbeats 8000000 in
set_option maxRecDepth 100000 in
theorem impl_InsertInColumns.calls (A0_0 : Option Addr) (c0_0 : Nat) (l0_0 : List Int) (A0_1 : Option Addr) (c0_1 : Nat) (l0_1 : List (List Int)) (a1 : Int) (r1 : List Int) (r2 : List (List Int)) (r3 : Bool) (w : World) (hr0_0 : Kd.C (Kd.int .i64) w A0_0 l0_0.length l0_0) (hc0_0 : l0_0.length ≤ c0_0) (hr0_1 : Kd.C (Kd.slice 3 (Kd.int .i64)) w A0_1 l0_1.length l0_1) (hc0_1 : l0_1.length ≤ c0_1) (h : impl_InsertInColumns.f l0_0 l0_1 a1 = some (r1, r2, r3)) :
  Calls Try.prog 27 #[.agg #[.slice A0_0 l0_0.length c0_0, .slice A0_1 l0_1.length c0_1], .int .i64 a1] w fun e w' => ∃ v0_ v1_ : Value, e = .returned (.tuple #[.agg #[v0_, v1_], .bool r3]) ∧ Kd.R (Kd.int .i64) 3 w' w.heap.size (fun _ => True) v0_ r1 ∧ Kd.S (Kd.slice 3 (Kd.int .i64)) 22 w' w.heap.size (fun k_ => some k_ ≠ (v0_ : Value).ownBlock) v1_ r2 ∧ Below w.heap.size w w' := by
  unfold impl_InsertInColumns.f at h
  by_cases hb : l0_0.length ≤ 1048576 ∧ l0_1.length ≤ 1048576 ∧ bulk l0_1 ≤ 1048576
  case neg => rw [if_neg hb] at h; cases h
  rw [if_pos hb] at h
  replace h := Option.some.inj h
  obtain ⟨hn, hm, hbk⟩ := hb
  have HP := Aside0.mk (impl_isPlain_ev l0_0 l0_1 hn hm hbk)
  have HR := Aside0.mk (impl_ReadingWord_ev l0_0 l0_1 hn hm hbk)
  have HW := Aside0.mk (impl_within_eq a1 1 9)
  have C0 := Aside0.mk hr0_0
  have C1 := Aside0.mk hr0_1
  have H0 := Aside0.mk (St.start w)
  clear hr0_0 hr0_1 hbk
  unfold insIC at h
  obtain ⟨rw_, hrw⟩ : ∃ z, z = (if isTab l0_0 l0_1 = true then readAll l0_1 else []) := ⟨_, rfl⟩
  rw [← hrw] at HR
  by_cases hp : plainT l0_0 l0_1 = true
  case neg =>
    have hpf : plainT l0_0 l0_1 = false := by simpa using hp
    rw [hpf] at HP
    rw [if_neg (fun g => hp g.1)] at h
    obtain ⟨rfl, rfl, rfl⟩ : r1 = [] ∧ r2 = [] ∧ r3 = false := by simpa [eq_comm] using h
    clear h hp hpf hrw
    go_enter Try.func27, Try.ntmps27
    go_wp2_with (first | ((with_reducible refine gate_dst (N := 2) rfl ?_); refine zX (N := 2) (cs := #[.slice A0_0 l0_0.length c0_0, .slice A0_1 l0_1.length c0_1]) (t := 28) ?_; intro b2 hb2 wb2 hxb2 hlb2; have H2 := Aside0.mk (St.addB H0.out hxb2 hb2 hlb2); clear hxb2 hlb2 hb2) | ((with_reducible refine gate_dst (N := 4) rfl ?_); refine zX (N := 4) (cs := #[.slice none 0 0, .slice none 0 0]) (t := 28) ?_; intro b4 hb4 wb4 hxb4 hlb4; have H4 := Aside0.mk (St.addB H2.out hxb4 hb4 hlb4); clear hxb4 hlb4 hb4; have z2_0 : wb4.cell? ⟨b2, 0, none⟩ = some (.slice A0_0 l0_0.length c0_0) := St.cellB H4.out 1 rfl 0 rfl; have z2_1 : wb4.cell? ⟨b2, 1, none⟩ = some (.slice A0_1 l0_1.length c0_1) := St.cellB H4.out 1 rfl 1 rfl) | (go_at_call 63; (with_reducible refine (impl_isPlain_st _ _ H4.out (H4.out.came C0.out hc0_0) (H4.out.came C1.out hc0_1) HP.out).mono ?_); rintro e w5 ⟨rfl, h_⟩; have H5 := Aside0.mk h_; clear h_; clear z2_0 z2_1; have z4_0 : w5.cell? ⟨b4, 0, none⟩ = some (.slice none 0 0) := St.cellB H5.out 0 rfl 0 rfl; have z4_1 : w5.cell? ⟨b4, 1, none⟩ = some (.slice none 0 0) := St.cellB H5.out 0 rfl 1 rfl; have f4_0 := blk_frozen (St.heapB H5.out 0 rfl) 0; have f4_1 := blk_frozen (St.heapB H5.out 0 rfl) 1))
    have H9 := Aside0.mk (St.put2 H5.out 0 rfl (.slice none 0 0) (.slice none 0 0))
    refine bodyPost_ret (results_ct rfl _ _ b4 28 #[.slice none 0 0, .slice none 0 0] (0, 0) _ rfl (St.heapB H9.out 0 rfl) Try.underlying28 rfl (by kernel_rfl)) rfl ?_
    exact ⟨_, _, rfl, Kd.R_nil _ _ _ _ _, Kd.S_nil _ _ _ _ _, H9.out.below⟩
  rw [hp] at HP
  obtain ⟨hlen, hle⟩ := plain_len hp
  rw [← hrw] at hlen
  by_cases hx : 1 ≤ a1 ∧ a1 ≤ 9
  case neg =>
    rw [decide_eq_false hx] at HW
    rw [if_neg (fun g => hx g.2.1)] at h
    obtain ⟨rfl, rfl, rfl⟩ : r1 = [] ∧ r2 = [] ∧ r3 = false := by simpa [eq_comm] using h
    clear h hrw hlen hle
    go_enter Try.func27, Try.ntmps27
    go_wp2_with (first | ((with_reducible refine gate_dst (N := 2) rfl ?_); refine zX (N := 2) (cs := #[.slice A0_0 l0_0.length c0_0, .slice A0_1 l0_1.length c0_1]) (t := 28) ?_; intro b2 hb2 wb2 hxb2 hlb2; have H2 := Aside0.mk (St.addB H0.out hxb2 hb2 hlb2); clear hxb2 hlb2 hb2) | ((with_reducible refine gate_dst (N := 4) rfl ?_); refine zX (N := 4) (cs := #[.slice none 0 0, .slice none 0 0]) (t := 28) ?_; intro b4 hb4 wb4 hxb4 hlb4; have H4 := Aside0.mk (St.addB H2.out hxb4 hb4 hlb4); clear hxb4 hlb4 hb4; have z2_0 : wb4.cell? ⟨b2, 0, none⟩ = some (.slice A0_0 l0_0.length c0_0) := St.cellB H4.out 1 rfl 0 rfl; have z2_1 : wb4.cell? ⟨b2, 1, none⟩ = some (.slice A0_1 l0_1.length c0_1) := St.cellB H4.out 1 rfl 1 rfl) | (go_at_call 63; (with_reducible refine (impl_isPlain_st _ _ H4.out (H4.out.came C0.out hc0_0) (H4.out.came C1.out hc0_1) HP.out).mono ?_); rintro e w5 ⟨rfl, h_⟩; have H5 := Aside0.mk h_; clear h_; clear z2_0 z2_1; have z2_0 : w5.cell? ⟨b2, 0, none⟩ = some (.slice A0_0 l0_0.length c0_0) := St.cellB H5.out 1 rfl 0 rfl; have z2_1 : w5.cell? ⟨b2, 1, none⟩ = some (.slice A0_1 l0_1.length c0_1) := St.cellB H5.out 1 rfl 1 rfl) | (go_at_call 64; (with_reducible refine (impl_within_st _ _ _ H5.out HW.out).mono ?_); rintro e w6 ⟨rfl, h_⟩; have H6 := Aside0.mk h_; clear h_; clear z2_0 z2_1; have z4_0 : w6.cell? ⟨b4, 0, none⟩ = some (.slice none 0 0) := St.cellB H6.out 0 rfl 0 rfl; have z4_1 : w6.cell? ⟨b4, 1, none⟩ = some (.slice none 0 0) := St.cellB H6.out 0 rfl 1 rfl; have f4_0 := blk_frozen (St.heapB H6.out 0 rfl) 0; have f4_1 := blk_frozen (St.heapB H6.out 0 rfl) 1))
    have H9 := Aside0.mk (St.put2 H6.out 0 rfl (.slice none 0 0) (.slice none 0 0))
    refine bodyPost_ret (results_ct rfl _ _ b4 28 #[.slice none 0 0, .slice none 0 0] (0, 0) _ rfl (St.heapB H9.out 0 rfl) Try.underlying28 rfl (by kernel_rfl)) rfl ?_
    exact ⟨_, _, rfl, Kd.R_nil _ _ _ _ _, Kd.S_nil _ _ _ _ _, H9.out.below⟩
  rw [decide_eq_true hx] at HW
  by_cases h9 : l0_1.flatten.length < 9
  case neg =>
    rw [if_neg (fun g => h9 g.2.2)] at h
    obtain ⟨rfl, rfl, rfl⟩ : r1 = [] ∧ r2 = [] ∧ r3 = false := by simpa [eq_comm] using h
    clear h
    have e9 : ((rw_.length : Int) == 9) = true := by rw [beq_iff_eq]; omega
    have e9b : (rw_.length : Int) = 9 := by omega
    clear hrw hlen hle h9
    go_enter Try.func27, Try.ntmps27
    go_wp2_with (first | ((with_reducible refine gate_dst (N := 2) rfl ?_); refine zX (N := 2) (cs := #[.slice A0_0 l0_0.length c0_0, .slice A0_1 l0_1.length c0_1]) (t := 28) ?_; intro b2 hb2 wb2 hxb2 hlb2; have H2 := Aside0.mk (St.addB H0.out hxb2 hb2 hlb2); clear hxb2 hlb2 hb2) | ((with_reducible refine gate_dst (N := 4) rfl ?_); refine zX (N := 4) (cs := #[.slice none 0 0, .slice none 0 0]) (t := 28) ?_; intro b4 hb4 wb4 hxb4 hlb4; have H4 := Aside0.mk (St.addB H2.out hxb4 hb4 hlb4); clear hxb4 hlb4 hb4; have z2_0 : wb4.cell? ⟨b2, 0, none⟩ = some (.slice A0_0 l0_0.length c0_0) := St.cellB H4.out 1 rfl 0 rfl; have z2_1 : wb4.cell? ⟨b2, 1, none⟩ = some (.slice A0_1 l0_1.length c0_1) := St.cellB H4.out 1 rfl 1 rfl) | (go_at_call 63; (with_reducible refine (impl_isPlain_st _ _ H4.out (H4.out.came C0.out hc0_0) (H4.out.came C1.out hc0_1) HP.out).mono ?_); rintro e w5 ⟨rfl, h_⟩; have H5 := Aside0.mk h_; clear h_; clear z2_0 z2_1; have z2_0 : w5.cell? ⟨b2, 0, none⟩ = some (.slice A0_0 l0_0.length c0_0) := St.cellB H5.out 1 rfl 0 rfl; have z2_1 : w5.cell? ⟨b2, 1, none⟩ = some (.slice A0_1 l0_1.length c0_1) := St.cellB H5.out 1 rfl 1 rfl) | (go_at_call 64; (with_reducible refine (impl_within_st _ _ _ H5.out HW.out).mono ?_); rintro e w6 ⟨rfl, h_⟩; have H6 := Aside0.mk h_; clear h_; clear z2_0 z2_1; have z2_0 : w6.cell? ⟨b2, 0, none⟩ = some (.slice A0_0 l0_0.length c0_0) := St.cellB H6.out 1 rfl 0 rfl; have z2_1 : w6.cell? ⟨b2, 1, none⟩ = some (.slice A0_1 l0_1.length c0_1) := St.cellB H6.out 1 rfl 1 rfl) | (go_at_call 16; (with_reducible refine (impl_ReadingWord_st _ _ H6.out (H6.out.came C0.out hc0_0) (H6.out.came C1.out hc0_1) HR.out).mono ?_); rintro e w7 ⟨v7, ok7, rfl, h_⟩; have H7 := Aside0.mk h_; clear h_; obtain ⟨A7, c7, rfl, _, _⟩ := H7.out.readR 0 rfl; clear z2_0 z2_1; have z4_0 : w7.cell? ⟨b4, 0, none⟩ = some (.slice none 0 0) := St.cellB H7.out 1 rfl 0 rfl; have z4_1 : w7.cell? ⟨b4, 1, none⟩ = some (.slice none 0 0) := St.cellB H7.out 1 rfl 1 rfl; have f4_0 := blk_frozen (St.heapB H7.out 1 rfl) 0; have f4_1 := blk_frozen (St.heapB H7.out 1 rfl) 1))
    have H9 := Aside0.mk (St.put2 H7.out 1 rfl (.slice none 0 0) (.slice none 0 0))
    refine bodyPost_ret (results_ct rfl _ _ b4 28 #[.slice none 0 0, .slice none 0 0] (0, 0) _ rfl (St.heapB H9.out 1 rfl) Try.underlying28 rfl (by kernel_rfl)) rfl ?_
    exact ⟨_, _, rfl, Kd.R_nil _ _ _ _ _, Kd.S_nil _ _ _ _ _, H9.out.below⟩
  rw [if_pos ⟨hp, hx, h9⟩] at h
  obtain ⟨hn0, ht0⟩ := plainT_iff.1 hp
  have ht : isTab [] l0_1 = true := by rw [← hn0]; exact ht0
  obtain ⟨s1, s2, s3, s4⟩ := ins_small ht a1
  have hr9 := (isTab_cells ht).2.1
  have hm9 := (isTab_cells ht).1
  have HC := Aside0.mk (impl_columnsOf_ev l0_0 l0_1 (by omega) (fun r hr => by have := hr9 r hr; omega))
  have hO := impl_ofColumns_ev (insCols (cols l0_1) a1) (by omega) (fun r hr => by have := s4 r hr; omega)
  have HB1 := Aside0.mk (show (cols l0_1).length ≤ 1000 by omega)
  have HB2 := Aside0.mk (show ∀ r ∈ cols l0_1, r.length ≤ 1000 from fun r hr => by have := s2 r hr; omega)
  obtain ⟨e1, e2, rfl⟩ : r1 = [] ∧ r2 = cols (insCols (cols l0_1) a1) ∧ r3 = true := by simpa [eq_comm] using h
  rw [← e1, ← e2] at hO
  have HO := Aside0.mk hO
  clear h s1 s2 s3 s4 hr9 hm9 e1 e2 hO hn0 ht0 ht
  have e9 : ((rw_.length : Int) == 9) = false := by rw [beq_eq_false_iff_ne]; omega
  have e9b : ¬ (rw_.length : Int) = 9 := by omega
  clear hrw hlen hle h9
  go_enter Try.func27, Try.ntmps27
  go_wp2_with (first | ((with_reducible refine gate_dst (N := 2) rfl ?_); refine zX (N := 2) (cs := #[.slice A0_0 l0_0.length c0_0, .slice A0_1 l0_1.length c0_1]) (t := 28) ?_; intro b2 hb2 wb2 hxb2 hlb2; have H2 := Aside0.mk (St.addB H0.out hxb2 hb2 hlb2); clear hxb2 hlb2 hb2) | ((with_reducible refine gate_dst (N := 4) rfl ?_); refine zX (N := 4) (cs := #[.slice none 0 0, .slice none 0 0]) (t := 28) ?_; intro b4 hb4 wb4 hxb4 hlb4; have H4 := Aside0.mk (St.addB H2.out hxb4 hb4 hlb4); clear hxb4 hlb4 hb4; have z2_0 : wb4.cell? ⟨b2, 0, none⟩ = some (.slice A0_0 l0_0.length c0_0) := St.cellB H4.out 1 rfl 0 rfl; have z2_1 : wb4.cell? ⟨b2, 1, none⟩ = some (.slice A0_1 l0_1.length c0_1) := St.cellB H4.out 1 rfl 1 rfl) | (go_at_call 63; (with_reducible refine (impl_isPlain_st _ _ H4.out (H4.out.came C0.out hc0_0) (H4.out.came C1.out hc0_1) HP.out).mono ?_); rintro e w5 ⟨rfl, h_⟩; have H5 := Aside0.mk h_; clear h_; clear z2_0 z2_1; have z2_0 : w5.cell? ⟨b2, 0, none⟩ = some (.slice A0_0 l0_0.length c0_0) := St.cellB H5.out 1 rfl 0 rfl; have z2_1 : w5.cell? ⟨b2, 1, none⟩ = some (.slice A0_1 l0_1.length c0_1) := St.cellB H5.out 1 rfl 1 rfl) | (go_at_call 64; (with_reducible refine (impl_within_st _ _ _ H5.out HW.out).mono ?_); rintro e w6 ⟨rfl, h_⟩; have H6 := Aside0.mk h_; clear h_; clear z2_0 z2_1; have z2_0 : w6.cell? ⟨b2, 0, none⟩ = some (.slice A0_0 l0_0.length c0_0) := St.cellB H6.out 1 rfl 0 rfl; have z2_1 : w6.cell? ⟨b2, 1, none⟩ = some (.slice A0_1 l0_1.length c0_1) := St.cellB H6.out 1 rfl 1 rfl) | (go_at_call 16; (with_reducible refine (impl_ReadingWord_st _ _ H6.out (H6.out.came C0.out hc0_0) (H6.out.came C1.out hc0_1) HR.out).mono ?_); rintro e w7 ⟨v7, ok7, rfl, h_⟩; have H7 := Aside0.mk h_; clear h_; obtain ⟨A7, c7, rfl, _, _⟩ := H7.out.readR 0 rfl; clear z2_0 z2_1; have z2_0 : w7.cell? ⟨b2, 0, none⟩ = some (.slice A0_0 l0_0.length c0_0) := St.cellB H7.out 2 rfl 0 rfl; have z2_1 : w7.cell? ⟨b2, 1, none⟩ = some (.slice A0_1 l0_1.length c0_1) := St.cellB H7.out 2 rfl 1 rfl) | (go_at_call 67; (with_reducible refine (impl_columnsOf_st _ _ H7.out (H7.out.came C0.out hc0_0) (H7.out.came C1.out hc0_1) HC.out).mono ?_); rintro e w8 ⟨v8, ok8, rfl, h_⟩; have H8 := Aside0.mk h_; clear h_) | (go_at_call 66; (with_reducible refine (insertBelow_st H8.out 0 rfl a1 HB1.out HB2.out).mono ?_); rintro e w9 ⟨v9, ok9, rfl, h_⟩; have H9 := Aside0.mk h_; clear h_) | (go_at_call 65; (with_reducible refine (impl_ofColumns_st _ H9.out (H9.out.readS 0 rfl) HO.out).mono ?_); rintro e w10 ⟨v10, u10, ok10, oq10, rfl, h_⟩; have H10 := Aside0.mk h_; clear h_; obtain ⟨A10, c10, rfl, _, _⟩ := H10.out.readR 0 rfl; obtain ⟨A11, c11, rfl, _, _⟩ := H10.out.readS 1 rfl; clear z2_0 z2_1; have z4_0 : w10.cell? ⟨b4, 0, none⟩ = some (.slice none 0 0) := St.cellB H10.out 4 rfl 0 rfl; have z4_1 : w10.cell? ⟨b4, 1, none⟩ = some (.slice none 0 0) := St.cellB H10.out 4 rfl 1 rfl; have f4_0 := blk_frozen (St.heapB H10.out 4 rfl) 0; have f4_1 := blk_frozen (St.heapB H10.out 4 rfl) 1))
  have H11 := Aside0.mk (St.put2 H10.out 4 rfl (.slice A10 r1.length c10) (.slice A11 r2.length c11))
  refine bodyPost_ret (results_ct rfl _ _ b4 28 #[.slice A10 r1.length c10, .slice A11 r2.length c11] (0, 0) _ rfl (St.heapB H11.out 4 rfl) Try.underlying28 rfl (by kernel_rfl)) rfl ?_
  exact ⟨_, _, rfl, St.giveRS H11.out 0 1 (by decide) rfl rfl⟩

theorem spec_InsertInColumns_st {w W : World} {L : List Ob} {v0_0 v0_1 : Value} (l0_0 : List Int) (l0_1 : List (List Int)) (a1 : Int) {r1 : List Int} {r2 : List (List Int)} {r3 : Bool} (h : St w W L) (hr0_0 : Reads (Kd.int .i64) W v0_0 l0_0) (hr0_1 : Reads (Kd.slice 3 (Kd.int .i64)) W v0_1 l0_1) (hE : Ev (fun k => spec_InsertInColumns.f k l0_0 l0_1 a1) (r1, r2, r3)) :
    Calls Try.prog 26 #[.agg #[v0_0, v0_1], .int .i64 a1] W fun e W' => ∃ v0_ v1_ : Value, ∃ ok0 ok1, e = .returned (.tuple #[.agg #[v0_, v1_], .bool r3]) ∧ St w W' (obR (Kd.int .i64) 3 w ok0 v0_ r1 :: obS (Kd.slice 3 (Kd.int .i64)) 22 w ok1 v1_ r2 :: L) := by
  obtain ⟨A0_0, c0_0, rfl, hc0_0, hC0_0⟩ := hr0_0
  obtain ⟨A0_1, c0_1, rfl, hc0_1, hC0_1⟩ := hr0_1
  obtain ⟨K, hK⟩ := hE
  refine (spec_InsertInColumns.calls K A0_0 c0_0 l0_0 A0_1 c0_1 l0_1 a1 r1 r2 r3 W hC0_0 hc0_0 hC0_1 hc0_1 (hK K (Nat.le_refl _))).mono ?_
  rintro e W' ⟨v0_, v1_, rfl, o0, o1, hb⟩
  obtain ⟨ok0, ok1, h1⟩ := St.addRS rfl h hb o0 o1
  exact ⟨v0_, v1_, ok0, ok1, rfl, h1⟩
theorem impl_InsertInColumns_st {w W : World} {L : List Ob} {v0_0 v0_1 : Value} (l0_0 : List Int) (l0_1 : List (List Int)) (a1 : Int) {r1 : List Int} {r2 : List (List Int)} {r3 : Bool} (h : St w W L) (hr0_0 : Reads (Kd.int .i64) W v0_0 l0_0) (hr0_1 : Reads (Kd.slice 3 (Kd.int .i64)) W v0_1 l0_1) (hE : impl_InsertInColumns.f l0_0 l0_1 a1 = some (r1, r2, r3)) :
    Calls Try.prog 27 #[.agg #[v0_0, v0_1], .int .i64 a1] W fun e W' => ∃ v0_ v1_ : Value, ∃ ok0 ok1, e = .returned (.tuple #[.agg #[v0_, v1_], .bool r3]) ∧ St w W' (obR (Kd.int .i64) 3 w ok0 v0_ r1 :: obS (Kd.slice 3 (Kd.int .i64)) 22 w ok1 v1_ r2 :: L) := by
  obtain ⟨A0_0, c0_0, rfl, hc0_0, hC0_0⟩ := hr0_0
  obtain ⟨A0_1, c0_1, rfl, hc0_1, hC0_1⟩ := hr0_1
  refine (impl_InsertInColumns.calls A0_0 c0_0 l0_0 A0_1 c0_1 l0_1 a1 r1 r2 r3 W hC0_0 hc0_0 hC0_1 hc0_1 hE).mono ?_
  rintro e W' ⟨v0_, v1_, rfl, o0, o1, hb⟩
  obtain ⟨ok0, ok1, h1⟩ := St.addRS rfl h hb o0 o1
  exact ⟨v0_, v1_, ok0, ok1, rfl, h1⟩
def FnExactInsertInColumns.Pure : Prop := ∀ (l0_0 : List Int) (l0_1 : List (List Int)) (a1 : Int), (l0_0.length ≤ maxLen) → (∀ n ∈ l0_0, (Lit.int .i64 n).wf = true) → (l0_1.length ≤ maxLen) → (∀ r ∈ l0_1, r.length ≤ maxLen) → (∀ r ∈ l0_1, ∀ n ∈ r, (Lit.int .i64 n).wf = true) → ((Lit.int .i64 a1).wf = true) → (l0_0.length ≤ 1048576) → (l0_1.length ≤ 1048576 ∧ bulk l0_1 ≤ 1048576) → ∃ (qr1 : List Int) (qr2 : List (List Int)) (qr3 : Bool), Ev (fun k => spec_InsertInColumns.f k l0_0 l0_1 a1) (qr1, qr2, qr3) ∧ impl_InsertInColumns.f l0_0 l0_1 a1 = some (qr1, qr2, qr3) ∧ qr1.length ≤ 576460752303423488 ∧ qr2.length ≤ 576460752303423488 ∧ bulk qr2 ≤ 576460752303423488
set_option maxHeartbeats 8000000 in
set_option maxRecDepth 100000 in
theorem FnExactInsertInColumns.walk (P : FnExactInsertInColumns.Pure) (A0_0 : Option Addr) (c0_0 : Nat) (l0_0 : List Int) (A0_1 : Option Addr) (c0_1 : Nat) (l0_1 : List (List Int)) (a1 : Int) (w : World) (hr0_0 : Kd.C (Kd.int .i64) w A0_0 l0_0.length l0_0) (hc0_0 : l0_0.length ≤ c0_0) (hr0_1 : Kd.C (Kd.slice 3 (Kd.int .i64)) w A0_1 l0_1.length l0_1) (hc0_1 : l0_1.length ≤ c0_1) (m0_0 : l0_0.length ≤ maxLen) (y0_0 : ∀ n ∈ l0_0, (Lit.int .i64 n).wf = true) (m0_1 : l0_1.length ≤ maxLen) (n0_1 : ∀ r ∈ l0_1, r.length ≤ maxLen) (y0_1 : ∀ r ∈ l0_1, ∀ n ∈ r, (Lit.int .i64 n).wf = true) (y1 : (Lit.int .i64 a1).wf = true) :
    Calls Try.prog 7 #[.agg #[.slice A0_0 l0_0.length c0_0, .slice A0_1 l0_1.length c0_1], .int .i64 a1] w fun e w' => e = .returned (.bool true) ∧ Below w.heap.size w w' := by
  have H0 := Aside0.mk (St.boxAt (St.start w) #[.slice A0_0 l0_0.length c0_0, .slice A0_1 l0_1.length c0_1] 25 (b := w.heap.size) (by simp only [World.size_alloc]))
  have y0_0_0 : (w.alloc (.cells #[.slice A0_0 l0_0.length c0_0, .slice A0_1 l0_1.length c0_1] 25 (0, 0))).cell? ⟨w.heap.size, 0, none⟩ = some (.slice A0_0 l0_0.length c0_0) := St.cellB H0.out 0 rfl 0 rfl
  have y0_0_1 : (w.alloc (.cells #[.slice A0_0 l0_0.length c0_0, .slice A0_1 l0_1.length c0_1] 25 (0, 0))).cell? ⟨w.heap.size, 1, none⟩ = some (.slice A0_1 l0_1.length c0_1) := St.cellB H0.out 0 rfl 1 rfl
  have C0_0 := Aside0.mk hr0_0
  have C0_1 := Aside0.mk hr0_1
  obtain ⟨z0, hz0, hp0⟩ := szTableau_evb l0_0 l0_1 1048576 (by omega) (by omega) m0_0 m0_1 n0_1
  have Z0 := Aside0.mk hz0
  clear hz0
  by_cases s0 : z0 < 0
  case pos =>
    have b0 : decide (z0 < 0) = true := decide_eq_true s0
    clear s0 hp0 hr0_0 hr0_1
    go_enter Try.func7, Try.ntmps7
    go_wp2_with (go_at_call 10; (with_reducible refine (szTableau_st H0.out (H0.out.came C0_0.out hc0_0) (H0.out.came C0_1.out hc0_1) Z0.out).mono ?_); rintro e w1 ⟨rfl, h_⟩; have H1 := Aside0.mk h_; clear h_ H0 y0_0_0 y0_0_1; have y1_0_0 : w1.cell? ⟨w.heap.size, 0, none⟩ = some (.slice A0_0 l0_0.length c0_0) := St.cellB H1.out 0 rfl 0 rfl; have y1_0_1 : w1.cell? ⟨w.heap.size, 1, none⟩ = some (.slice A0_1 l0_1.length c0_1) := St.cellB H1.out 0 rfl 1 rfl)
    go_wp2
    go_ret
    exact ⟨by simp, H1.out.below⟩
  have b0 : decide (z0 < 0) = false := decide_eq_false s0
  obtain ⟨qr1, qr2, qr3, hs, hi, e0, e1⟩ := P l0_0 l0_1 a1 m0_0 y0_0 m0_1 n0_1 y0_1 y1 (by omega) ⟨by omega, by omega⟩
  have F := Aside0.mk (And.intro (by omega : l0_0.length ≤ 1048576) (And.intro (⟨by omega, by omega⟩ : l0_1.length ≤ 1048576 ∧ bulk l0_1 ≤ 1048576) (And.intro e0 (e1))))
  have Hs := Aside0.mk hs
  have Hi := Aside0.mk hi
  clear hs hi e0 e1 hr0_0 hr0_1 m0_0 y0_0 m0_1 n0_1 y0_1 y1
  clear P s0 hp0
  go_enter Try.func7, Try.ntmps7
  go_wp2_with (go_at_call 10; (with_reducible refine (szTableau_st H0.out (H0.out.came C0_0.out hc0_0) (H0.out.came C0_1.out hc0_1) Z0.out).mono ?_); rintro e w1 ⟨rfl, h_⟩; have H1 := Aside0.mk h_; clear h_ H0 y0_0_0 y0_0_1; have y1_0_0 : w1.cell? ⟨w.heap.size, 0, none⟩ = some (.slice A0_0 l0_0.length c0_0) := St.cellB H1.out 0 rfl 0 rfl; have y1_0_1 : w1.cell? ⟨w.heap.size, 1, none⟩ = some (.slice A0_1 l0_1.length c0_1) := St.cellB H1.out 0 rfl 1 rfl)
  go_wp2_with (go_at_call 12; (with_reducible refine (toTableau_st H1.out (H1.out.came C0_0.out hc0_0) (H1.out.came C0_1.out hc0_1) (by have f_ := F.out; omega) (by have f_ := F.out; omega) (fun r h_ => by have f_ := F.out; have := bulk_mem h_; omega)).mono ?_); rintro e w2 ⟨v1_0, v1_1, ok1_0, ok1_1, rfl, h_⟩; have H2 := Aside0.mk h_; clear h_ H1 y1_0_0 y1_0_1; obtain ⟨Aq1_0, cq1_0, rfl, _, _⟩ := H2.out.readR 0 rfl; obtain ⟨Aq1_1, cq1_1, rfl, _, _⟩ := H2.out.readS 1 rfl)
  go_wp2_with (go_at_call 26; (with_reducible refine (spec_InsertInColumns_st _ _ _ H2.out (H2.out.readR 0 rfl) (H2.out.readS 1 rfl) Hs.out).mono ?_); rintro e w3 ⟨v2_0, v2_1, ok2_0, ok2_1, rfl, h_⟩; have H3 := Aside0.mk h_; clear h_ H2; obtain ⟨Aq2_0, cq2_0, rfl, _, _⟩ := H3.out.readR 0 rfl; obtain ⟨Aq2_1, cq2_1, rfl, _, _⟩ := H3.out.readS 1 rfl; have HB3 := Aside0.mk (St.box H3.out #[.slice Aq2_0 qr1.length cq2_0, .slice Aq2_1 qr2.length cq2_1] 28); clear H3; have z2_5_0 : (w3.alloc (.cells #[.slice Aq2_0 qr1.length cq2_0, .slice Aq2_1 qr2.length cq2_1] 28 (0, 0))).cell? ⟨w.heap.size, 0, none⟩ = some (.slice A0_0 l0_0.length c0_0) := St.cellB HB3.out 5 rfl 0 rfl; have z2_5_1 : (w3.alloc (.cells #[.slice Aq2_0 qr1.length cq2_0, .slice Aq2_1 qr2.length cq2_1] 28 (0, 0))).cell? ⟨w.heap.size, 1, none⟩ = some (.slice A0_1 l0_1.length c0_1) := St.cellB HB3.out 5 rfl 1 rfl)
  go_wp2_with (go_at_call 12; (with_reducible refine (toTableau_st HB3.out (HB3.out.came C0_0.out hc0_0) (HB3.out.came C0_1.out hc0_1) (by have f_ := F.out; omega) (by have f_ := F.out; omega) (fun r h_ => by have f_ := F.out; have := bulk_mem h_; omega)).mono ?_); rintro e w4 ⟨v3_0, v3_1, ok3_0, ok3_1, rfl, h_⟩; have H4 := Aside0.mk h_; clear h_ HB3 z2_5_0 z2_5_1; obtain ⟨Aq3_0, cq3_0, rfl, _, _⟩ := H4.out.readR 0 rfl; obtain ⟨Aq3_1, cq3_1, rfl, _, _⟩ := H4.out.readS 1 rfl; have HB4 := Aside0.mk (St.box H4.out #[.slice Aq3_0 l0_0.length cq3_0, .slice Aq3_1 l0_1.length cq3_1] 28); clear H4; have z3_0_0 : (w4.alloc (.cells #[.slice Aq3_0 l0_0.length cq3_0, .slice Aq3_1 l0_1.length cq3_1] 28 (0, 0))).cell? ⟨w4.heap.size, 0, none⟩ = some (.slice Aq3_0 l0_0.length cq3_0) := St.cellB HB4.out 0 rfl 0 rfl; have z3_0_1 : (w4.alloc (.cells #[.slice Aq3_0 l0_0.length cq3_0, .slice Aq3_1 l0_1.length cq3_1] 28 (0, 0))).cell? ⟨w4.heap.size, 1, none⟩ = some (.slice Aq3_1 l0_1.length cq3_1) := St.cellB HB4.out 0 rfl 1 rfl)
  go_wp2_with (go_at_call 27; (with_reducible refine (impl_InsertInColumns_st _ _ _ HB4.out (HB4.out.readR 1 rfl) (HB4.out.readS 2 rfl) Hi.out).mono ?_); rintro e w5 ⟨v4_0, v4_1, ok4_0, ok4_1, rfl, h_⟩; have H5 := Aside0.mk h_; clear h_ HB4 z3_0_0 z3_0_1; obtain ⟨Aq4_0, cq4_0, rfl, _, _⟩ := H5.out.readR 0 rfl; obtain ⟨Aq4_1, cq4_1, rfl, _, _⟩ := H5.out.readS 1 rfl; have HB5 := Aside0.mk (St.box H5.out #[.slice Aq4_0 qr1.length cq4_0, .slice Aq4_1 qr2.length cq4_1] 28); clear H5; have z4_0_0 : (w5.alloc (.cells #[.slice Aq4_0 qr1.length cq4_0, .slice Aq4_1 qr2.length cq4_1] 28 (0, 0))).cell? ⟨w5.heap.size, 0, none⟩ = some (.slice Aq4_0 qr1.length cq4_0) := St.cellB HB5.out 0 rfl 0 rfl; have z4_0_1 : (w5.alloc (.cells #[.slice Aq4_0 qr1.length cq4_0, .slice Aq4_1 qr2.length cq4_1] 28 (0, 0))).cell? ⟨w5.heap.size, 1, none⟩ = some (.slice Aq4_1 qr2.length cq4_1) := St.cellB HB5.out 0 rfl 1 rfl; have z4_6_0 : (w5.alloc (.cells #[.slice Aq4_0 qr1.length cq4_0, .slice Aq4_1 qr2.length cq4_1] 28 (0, 0))).cell? ⟨w3.heap.size, 0, none⟩ = some (.slice Aq2_0 qr1.length cq2_0) := St.cellB HB5.out 6 rfl 0 rfl; have z4_6_1 : (w5.alloc (.cells #[.slice Aq4_0 qr1.length cq4_0, .slice Aq4_1 qr2.length cq4_1] 28 (0, 0))).cell? ⟨w3.heap.size, 1, none⟩ = some (.slice Aq2_1 qr2.length cq2_1) := St.cellB HB5.out 6 rfl 1 rfl)
  go_wp2_with (go_at_call 14; (with_reducible refine (eqTableau_st_same HB5.out (HB5.out.readR 1 rfl) (HB5.out.readS 2 rfl) (HB5.out.readR 7 rfl) (HB5.out.readS 8 rfl) (by have f_ := F.out; omega) (by have f_ := F.out; omega) (fun r h_ => by have f_ := F.out; have := bulk_mem h_; omega)).mono ?_); rintro e w6 ⟨rfl, h_⟩; have H6 := Aside0.mk h_; clear h_ HB5 z4_0_0 z4_0_1 z4_6_0 z4_6_1)
  have HD6 := Aside0.mk (H6.out.quiet (below_drew (Below.refl _ _)))
  clear H6
  go_region_held3 (fun W => W.cell? ⟨w4.heap.size, 0, none⟩ = some (.slice Aq3_0 l0_0.length cq3_0) ∧ W.cell? ⟨w4.heap.size, 1, none⟩ = some (.slice Aq3_1 l0_1.length cq3_1) ∧ W.cell? ⟨w.heap.size, 0, none⟩ = some (.slice A0_0 l0_0.length c0_0) ∧ W.cell? ⟨w.heap.size, 1, none⟩ = some (.slice A0_1 l0_1.length c0_1)) (first | exact ⟨St.cellB HD6.out 3 rfl 0 rfl, St.cellB HD6.out 3 rfl 1 rfl, St.cellB HD6.out 11 rfl 0 rfl, St.cellB HD6.out 11 rfl 1 rfl⟩ | exact ⟨St.cellB H7.out 5 rfl 0 rfl, St.cellB H7.out 5 rfl 1 rfl, St.cellB H7.out 13 rfl 0 rfl, St.cellB H7.out 13 rfl 1 rfl⟩ | exact ⟨St.cellB H8.out 5 rfl 0 rfl, St.cellB H8.out 5 rfl 1 rfl, St.cellB H8.out 13 rfl 0 rfl, St.cellB H8.out 13 rfl 1 rfl⟩)
  (first | (go_at_call 12; (with_reducible refine (toTableau_st HD6.out (HD6.out.came C0_0.out hc0_0) (HD6.out.came C0_1.out hc0_1) (by have f_ := F.out; omega) (by have f_ := F.out; omega) (fun r h_ => by have f_ := F.out; have := bulk_mem h_; omega)).mono ?_); rintro e w7 ⟨v6_0, v6_1, ok6_0, ok6_1, rfl, h_⟩; have H7 := Aside0.mk h_; clear h_ HD6; obtain ⟨Aq6_0, cq6_0, rfl, _, _⟩ := H7.out.readR 0 rfl; obtain ⟨Aq6_1, cq6_1, rfl, _, _⟩ := H7.out.readS 1 rfl) | (go_at_call 14; (with_reducible refine (eqTableau_st_same H7.out (H7.out.readR 6 rfl) (H7.out.readS 7 rfl) (H7.out.readR 0 rfl) (H7.out.readS 1 rfl) (by have f_ := F.out; omega) (by have f_ := F.out; omega) (fun r h_ => by have f_ := F.out; have := bulk_mem h_; omega)).mono ?_); rintro e w8 ⟨rfl, h_⟩; have H8 := Aside0.mk h_; clear h_ H7; have z7_5_0 : w8.cell? ⟨w4.heap.size, 0, none⟩ = some (.slice Aq3_0 l0_0.length cq3_0) := St.cellB H8.out 5 rfl 0 rfl; have z7_5_1 : w8.cell? ⟨w4.heap.size, 1, none⟩ = some (.slice Aq3_1 l0_1.length cq3_1) := St.cellB H8.out 5 rfl 1 rfl))
  go_wp2_with (go_at_call 18; (refine (markTableau_st (L' := [obR (Kd.int .i64) 3 w ok6_0 (.slice Aq6_0 l0_0.length cq6_0) l0_0, obS (Kd.slice 3 (Kd.int .i64)) 22 w ok6_1 (.slice Aq6_1 l0_1.length cq6_1) l0_1, obB w5.heap.size #[.slice Aq4_0 qr1.length cq4_0, .slice Aq4_1 qr2.length cq4_1] 28, obR (Kd.int .i64) 3 w ok4_0 (.slice Aq4_0 qr1.length cq4_0) qr1, obS (Kd.slice 3 (Kd.int .i64)) 22 w ok4_1 (.slice Aq4_1 qr2.length cq4_1) qr2, obB w4.heap.size #[.slice Aq3_0 l0_0.length cq3_0, .slice Aq3_1 l0_1.length cq3_1] 28, obR (Kd.int .i64) 3 w ok3_0 (.slice Aq3_0 l0_0.length cq3_0) (marks 1 l0_0.length), obS (Kd.slice 3 (Kd.int .i64)) 22 w ok3_1 (.slice Aq3_1 l0_1.length cq3_1) (rowMarks (1 + l0_0.length) l0_1), obB w3.heap.size #[.slice Aq2_0 qr1.length cq2_0, .slice Aq2_1 qr2.length cq2_1] 28, obR (Kd.int .i64) 3 w ok2_0 (.slice Aq2_0 qr1.length cq2_0) qr1, obS (Kd.slice 3 (Kd.int .i64)) 22 w ok2_1 (.slice Aq2_1 qr2.length cq2_1) qr2, obR (Kd.int .i64) 3 w ok1_0 (.slice Aq1_0 l0_0.length cq1_0) l0_0, obS (Kd.slice 3 (Kd.int .i64)) 22 w ok1_1 (.slice Aq1_1 l0_1.length cq1_1) l0_1, obB w.heap.size #[.slice A0_0 l0_0.length c0_0, .slice A0_1 l0_1.length c0_1] 25]) H8.out 6 7 rfl (by decide) rfl 1 (by have f_ := F.out; omega) (by have f_ := F.out; omega) (by have f_ := F.out; omega) (by have f_ := F.out; omega) rfl).mono ?_); rintro e w9 ⟨rfl, h_⟩; have H9 := Aside0.mk h_; clear h_ H8 z7_5_0 z7_5_1; have z8_2_0 : w9.cell? ⟨w5.heap.size, 0, none⟩ = some (.slice Aq4_0 qr1.length cq4_0) := St.cellB H9.out 2 rfl 0 rfl; have z8_2_1 : w9.cell? ⟨w5.heap.size, 1, none⟩ = some (.slice Aq4_1 qr2.length cq4_1) := St.cellB H9.out 2 rfl 1 rfl; have z8_8_0 : w9.cell? ⟨w3.heap.size, 0, none⟩ = some (.slice Aq2_0 qr1.length cq2_0) := St.cellB H9.out 8 rfl 0 rfl; have z8_8_1 : w9.cell? ⟨w3.heap.size, 1, none⟩ = some (.slice Aq2_1 qr2.length cq2_1) := St.cellB H9.out 8 rfl 1 rfl)
  go_wp2_with (go_at_call 14; (with_reducible refine (eqTableau_st_same H9.out (H9.out.readR 3 rfl) (H9.out.readS 4 rfl) (H9.out.readR 9 rfl) (H9.out.readS 10 rfl) (by have f_ := F.out; omega) (by have f_ := F.out; omega) (fun r h_ => by have f_ := F.out; have := bulk_mem h_; omega)).mono ?_); rintro e w10 ⟨rfl, h_⟩; have H10 := Aside0.mk h_; clear h_ H9 z8_2_0 z8_2_1 z8_8_0 z8_8_1; have z9_2_0 : w10.cell? ⟨w5.heap.size, 0, none⟩ = some (.slice Aq4_0 qr1.length cq4_0) := St.cellB H10.out 2 rfl 0 rfl; have z9_2_1 : w10.cell? ⟨w5.heap.size, 1, none⟩ = some (.slice Aq4_1 qr2.length cq4_1) := St.cellB H10.out 2 rfl 1 rfl)
  go_wp2_with (go_at_call 18; (refine (markTableau_st (L' := [obR (Kd.int .i64) 3 w ok6_0 (.slice Aq6_0 l0_0.length cq6_0) l0_0, obS (Kd.slice 3 (Kd.int .i64)) 22 w ok6_1 (.slice Aq6_1 l0_1.length cq6_1) l0_1, obB w5.heap.size #[.slice Aq4_0 qr1.length cq4_0, .slice Aq4_1 qr2.length cq4_1] 28, obR (Kd.int .i64) 3 w ok4_0 (.slice Aq4_0 qr1.length cq4_0) (marks 1 qr1.length), obS (Kd.slice 3 (Kd.int .i64)) 22 w ok4_1 (.slice Aq4_1 qr2.length cq4_1) (rowMarks (1 + qr1.length) qr2), obB w4.heap.size #[.slice Aq3_0 l0_0.length cq3_0, .slice Aq3_1 l0_1.length cq3_1] 28, obR (Kd.int .i64) 3 w ok3_0 (.slice Aq3_0 l0_0.length cq3_0) (marks 1 l0_0.length), obS (Kd.slice 3 (Kd.int .i64)) 22 w ok3_1 (.slice Aq3_1 l0_1.length cq3_1) (rowMarks (1 + l0_0.length) l0_1), obB w3.heap.size #[.slice Aq2_0 qr1.length cq2_0, .slice Aq2_1 qr2.length cq2_1] 28, obR (Kd.int .i64) 3 w ok2_0 (.slice Aq2_0 qr1.length cq2_0) qr1, obS (Kd.slice 3 (Kd.int .i64)) 22 w ok2_1 (.slice Aq2_1 qr2.length cq2_1) qr2, obR (Kd.int .i64) 3 w ok1_0 (.slice Aq1_0 l0_0.length cq1_0) l0_0, obS (Kd.slice 3 (Kd.int .i64)) 22 w ok1_1 (.slice Aq1_1 l0_1.length cq1_1) l0_1, obB w.heap.size #[.slice A0_0 l0_0.length c0_0, .slice A0_1 l0_1.length c0_1] 25]) H10.out 3 4 rfl (by decide) rfl 1 (by have f_ := F.out; omega) (by have f_ := F.out; omega) (by have f_ := F.out; omega) (by have f_ := F.out; omega) rfl).mono ?_); rintro e w11 ⟨rfl, h_⟩; have H11 := Aside0.mk h_; clear h_ H10 z9_2_0 z9_2_1; have z10_2_0 : w11.cell? ⟨w5.heap.size, 0, none⟩ = some (.slice Aq4_0 qr1.length cq4_0) := St.cellB H11.out 2 rfl 0 rfl; have z10_2_1 : w11.cell? ⟨w5.heap.size, 1, none⟩ = some (.slice Aq4_1 qr2.length cq4_1) := St.cellB H11.out 2 rfl 1 rfl)
  go_wp2_with (go_at_call 23; (refine (heldTableau_st H11.out qr1.length qr2 1 (H11.out.readR 3 rfl) (H11.out.readS 4 rfl) (by have f_ := F.out; omega) (by have f_ := F.out; omega) (by have f_ := F.out; omega) (by have f_ := F.out; omega)).mono ?_); rintro e w12 ⟨rfl, h_⟩; have H12 := Aside0.mk h_; clear h_ H11 z10_2_0 z10_2_1; have z11_13_0 : w12.cell? ⟨w.heap.size, 0, none⟩ = some (.slice A0_0 l0_0.length c0_0) := St.cellB H12.out 13 rfl 0 rfl; have z11_13_1 : w12.cell? ⟨w.heap.size, 1, none⟩ = some (.slice A0_1 l0_1.length c0_1) := St.cellB H12.out 13 rfl 1 rfl)
  go_wp2_with (go_at_call 12; (with_reducible refine (toTableau_st H12.out (H12.out.came C0_0.out hc0_0) (H12.out.came C0_1.out hc0_1) (by have f_ := F.out; omega) (by have f_ := F.out; omega) (fun r h_ => by have f_ := F.out; have := bulk_mem h_; omega)).mono ?_); rintro e w13 ⟨v12_0, v12_1, ok12_0, ok12_1, rfl, h_⟩; have H13 := Aside0.mk h_; clear h_ H12 z11_13_0 z11_13_1; obtain ⟨Aq12_0, cq12_0, rfl, _, _⟩ := H13.out.readR 0 rfl; obtain ⟨Aq12_1, cq12_1, rfl, _, _⟩ := H13.out.readS 1 rfl)
  go_wp2_with (go_at_call 27; (with_reducible refine (impl_InsertInColumns_st _ _ _ H13.out (H13.out.readR 0 rfl) (H13.out.readS 1 rfl) Hi.out).mono ?_); rintro e w14 ⟨v13_0, v13_1, ok13_0, ok13_1, rfl, h_⟩; have H14 := Aside0.mk h_; clear h_ H13; obtain ⟨Aq13_0, cq13_0, rfl, _, _⟩ := H14.out.readR 0 rfl; obtain ⟨Aq13_1, cq13_1, rfl, _, _⟩ := H14.out.readS 1 rfl; have HB14 := Aside0.mk (St.box H14.out #[.slice Aq13_0 qr1.length cq13_0, .slice Aq13_1 qr2.length cq13_1] 28); clear H14; have z13_0_0 : (w14.alloc (.cells #[.slice Aq13_0 qr1.length cq13_0, .slice Aq13_1 qr2.length cq13_1] 28 (0, 0))).cell? ⟨w14.heap.size, 0, none⟩ = some (.slice Aq13_0 qr1.length cq13_0) := St.cellB HB14.out 0 rfl 0 rfl; have z13_0_1 : (w14.alloc (.cells #[.slice Aq13_0 qr1.length cq13_0, .slice Aq13_1 qr2.length cq13_1] 28 (0, 0))).cell? ⟨w14.heap.size, 1, none⟩ = some (.slice Aq13_1 qr2.length cq13_1) := St.cellB HB14.out 0 rfl 1 rfl; have z13_13_0 : (w14.alloc (.cells #[.slice Aq13_0 qr1.length cq13_0, .slice Aq13_1 qr2.length cq13_1] 28 (0, 0))).cell? ⟨w3.heap.size, 0, none⟩ = some (.slice Aq2_0 qr1.length cq2_0) := St.cellB HB14.out 13 rfl 0 rfl; have z13_13_1 : (w14.alloc (.cells #[.slice Aq13_0 qr1.length cq13_0, .slice Aq13_1 qr2.length cq13_1] 28 (0, 0))).cell? ⟨w3.heap.size, 1, none⟩ = some (.slice Aq2_1 qr2.length cq2_1) := St.cellB HB14.out 13 rfl 1 rfl)
  go_wp2_with (go_at_call 14; (with_reducible refine (eqTableau_st_same HB14.out (HB14.out.readR 1 rfl) (HB14.out.readS 2 rfl) (HB14.out.readR 14 rfl) (HB14.out.readS 15 rfl) (by have f_ := F.out; omega) (by have f_ := F.out; omega) (fun r h_ => by have f_ := F.out; have := bulk_mem h_; omega)).mono ?_); rintro e w15 ⟨rfl, h_⟩; have H15 := Aside0.mk h_; clear h_ HB14 z13_0_0 z13_0_1 z13_13_0 z13_13_1; have z14_7_0 : w15.cell? ⟨w5.heap.size, 0, none⟩ = some (.slice Aq4_0 qr1.length cq4_0) := St.cellB H15.out 7 rfl 0 rfl; have z14_7_1 : w15.cell? ⟨w5.heap.size, 1, none⟩ = some (.slice Aq4_1 qr2.length cq4_1) := St.cellB H15.out 7 rfl 1 rfl)
  go_wp2_with (go_at_call 23; (refine (heldTableau_st H15.out qr1.length qr2 1 (H15.out.readR 8 rfl) (H15.out.readS 9 rfl) (by have f_ := F.out; omega) (by have f_ := F.out; omega) (by have f_ := F.out; omega) (by have f_ := F.out; omega)).mono ?_); rintro e w16 ⟨rfl, h_⟩; have H16 := Aside0.mk h_; clear h_ H15 z14_7_0 z14_7_1)
  go_ret
  exact ⟨by simp, H16.out.below⟩
end Go.Proofs.Ytljjjdgnpnnmoaa.Walk
