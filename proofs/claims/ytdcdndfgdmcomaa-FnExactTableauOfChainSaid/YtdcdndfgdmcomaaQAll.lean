/- Plain Lean: what the printed functions compute, topic by topic; conditions: those that each theorem names. -/
import Derived.Test.YtdcdndfgdmcomaaF0
import Derived.Test.YtdcdndfgdmcomaaF1
import Derived.Test.YtdcdndfgdmcomaaF3
import Derived.Test.YtdcdndfgdmcomaaF4
import Derived.Test.YtdcdndfgdmcomaaF5
import Derived.Test.YtdcdndfgdmcomaaF6
import Derived.IntWalk
import Derived.Deep.DeepCutAuto
import Derived.Deep.RegionHeld3
import Derived.Test.YtdcdndfgdmcomaaF7
import Derived.Test.YtdcdndfgdmcomaaF2
import Derived.Deep.Matrix
import Derived.Lib.SmallJoins
import Derived.ProofKit
import Derived.OpenShut
import Derived.ChangeSlices
set_option linter.unusedVariables false
set_option linter.unusedSimpArgs false
namespace Go.Proofs.Ytdcdndfgdmcomaa.Q
open Go.RowKit Go.Proofs.Ytdcdndfgdmcomaa.F Go.Proofs.YtdcdndfgdmcomaaW.PrintWords Go.Proofs.YtdcdndfgdmcomaaW.PrintLast Go.Proofs.YtdcdndfgdmcomaaW.PrintMore
section
variable {α β : Type} {r : α}
theorem ev_pos {c : Prop} [Decidable c] {A B : Nat → Option α} (h : c) (hA : Ev A r) : Ev (fun k => if c then A k else B k) r := by
  simp only [if_pos h]; exact hA
theorem ev_neg {c : Prop} [Decidable c] {A B : Nat → Option α} (h : ¬ c) (hB : Ev B r) : Ev (fun k => if c then A k else B k) r := by
  simp only [if_neg h]; exact hB
theorem ev_ite {c : Prop} [Decidable c] {A B : Nat → Option α} (hA : c → Ev A r) (hB : ¬ c → Ev B r) : Ev (fun k => if c then A k else B k) r := by
  by_cases h : c
  · exact ev_pos h (hA h)
  · exact ev_neg h (hB h)
theorem ev_bindc {o : Option β} {b : β} {f : Nat → β → Option α} (h : o = some b) (hf : Ev (fun k => f k b) r) : Ev (fun k => o.bind (f k)) r := by
  subst h; exact hf
theorem ev_val {a : α} (h : a = r) : Ev (fun _ => some a) r := by subst h; exact ⟨0, fun _ _ => rfl⟩
theorem ev_eq {g : Nat → Option α} {a : α} (h : Ev g a) (e : a = r) : Ev g r := e ▸ h
theorem ev_unique {g : Nat → Option α} {a b : α} (h : Ev g a) (h' : Ev g b) : a = b := by
  obtain ⟨K, h⟩ := h
  obtain ⟨K', h'⟩ := h'
  have e := (h (max K K') (by omega)).symm.trans (h' (max K K') (by omega))
  exact Option.some.inj e
end
theorem wrap_nat {n : Nat} (h : n ≤ 9223372036854775807) : wrap64 (n : Int) = n := by unfold wrap64; omega
theorem wrap_succ {n : Nat} (h : n < 9223372036854775807) : wrap64 ((n : Int) + 1) = ((n + 1 : Nat) : Int) := by unfold wrap64; omega
theorem wrap_id {i : Int} (h0 : -9223372036854775808 ≤ i) (h : i ≤ 9223372036854775807) : wrap64 i = i := by unfold wrap64; omega
theorem rd_nat (l : List Int) (i : Nat) : rd l (i : Int) = l.getD i 0 := by unfold rd; simp
theorem rd_eq (l : List Int) (i : Nat) (h : i < l.length) : rd l (i : Int) = l[i] := by rw [rd_nat]; simp [h]
theorem drop_rd (l : List Int) (i : Nat) (h : i < l.length) : l.drop i = rd l (i : Int) :: l.drop (i + 1) := by
  rw [rd_eq l i h]; exact List.drop_eq_getElem_cons h
theorem take_rd (l : List Int) (i : Nat) (h : i < l.length) : l.take (i + 1) = l.take i ++ [rd l (i : Int)] := by
  rw [rd_eq l i h]; exact List.take_succ_eq_append_getElem h
theorem rd_mem (l : List Int) (i : Nat) (h : i < l.length) : rd l (i : Int) ∈ l := by rw [rd_eq l i h]; exact List.getElem_mem h
/-- Downward: what holds at n, and is handed down, holds at each i up to n. -/
theorem downTo {P : Nat → Prop} (n : Nat) (h0 : P n) (hs : ∀ i, i < n → P (i + 1) → P i) : ∀ i, i ≤ n → P i := by
  intro i hi
  obtain ⟨d, rfl⟩ : ∃ d, n = i + d := ⟨n - i, by omega⟩
  clear hi
  induction d generalizing i with
  | zero => simpa using h0
  | succ d ih => exact hs i (by omega) (ih (i + 1) (by rwa [show i + 1 + d = i + (d + 1) by omega]) (fun j hj => hs j (by omega)))
theorem rd_set (l : List Int) (i j : Nat) (v : Int) (h : i < l.length) : rd (l.set i v) (j : Int) = if i = j then v else rd l (j : Int) := by
  rw [rd_nat, rd_nat, List.getD_eq_getElem?_getD, List.getElem?_set]
  by_cases e : i = j
  · subst e; rw [if_pos rfl, if_pos h, if_pos rfl]; rfl
  · rw [if_neg e, if_neg e, List.getD_eq_getElem?_getD]
theorem rd_reverse (l : List Int) (i : Nat) (h : i < l.length) : rd l.reverse (i : Int) = rd l ((l.length - 1 - i : Nat) : Int) := by
  rw [rd_eq _ i (by simpa using h), rd_eq _ (l.length - 1 - i) (by omega)]
  simp [List.getElem_reverse]
end Go.Proofs.Ytdcdndfgdmcomaa.Q

set_option linter.unusedVariables false
set_option linter.unusedSimpArgs false
namespace Go.Proofs.Ytdcdndfgdmcomaa.Q
open Go.RowKit Go.Proofs.Ytdcdndfgdmcomaa.F Go.Proofs.YtdcdndfgdmcomaaW.PrintWords Go.Proofs.YtdcdndfgdmcomaaW.PrintLast Go.Proofs.YtdcdndfgdmcomaaW.PrintMore
structure Ob where
  ok : Nat → Prop
  P : World → Prop
/-- the object stays while its blocks do -/
def Firm (o : Ob) : Prop := ∀ W W' : World, o.P W → (∀ k, o.ok k → k < W.heap.size → W'.heap[k]? = W.heap[k]?) → o.P W'
structure St (w W : World) (L : List Ob) : Prop where
  below : Below w.heap.size w W
  own : ∀ o ∈ L, (∀ k, o.ok k → w.heap.size ≤ k ∧ k < W.heap.size) ∧ o.P W ∧ Firm o
  apart : L.Pairwise (fun a b => ∀ k, a.ok k → ¬ b.ok k)
def obR {α : Type} (d : Kd α) (t : Nat) (w : World) (ok : Nat → Prop) (v : Value) (xs : List α) : Ob := ⟨ok, fun W => Kd.R d t W w.heap.size ok v xs⟩
def obS {α : Type} (d : Kd α) (t : Nat) (w : World) (ok : Nat → Prop) (v : Value) (xs : List α) : Ob := ⟨ok, fun W => Kd.S d t W w.heap.size ok v xs⟩
section
variable {α β : Type} {d : Kd α} {d' : Kd β} {t t' : Nat} {w W W' : World} {ok ok' okq : Nat → Prop} {v v' : Value} {xs : List α} {ys : List β} {L L' : List Ob} {o o' : Ob}
theorem firmR : Firm (obR d t w ok v xs) := fun _ _ h hm => Kd.R_step h hm
theorem firmS : Firm (obS d t w ok v xs) := fun _ _ h hm => Kd.S_step h hm
theorem St.start (w : World) : St w w [] := ⟨Below.refl _ _, fun _ h => by simp at h, List.Pairwise.nil⟩
theorem St.quiet (h : St w W L) (hb : Below W.heap.size W W') : St w W' L := by
  have hs := h.below.size
  refine ⟨below_then h.below hs hb, fun o ho => ?_, h.apart⟩
  obtain ⟨h1, h2, h3⟩ := h.own o ho
  exact ⟨fun k hk => ⟨(h1 k hk).1, Nat.lt_of_lt_of_le (h1 k hk).2 hb.size⟩, h3 W W' h2 (fun k _ hk => hb.block k hk), h3⟩
theorem St.drawn (h : St w W L) (hd : Drawn0 W W') : St w W' L := h.quiet hd.below
theorem St.add (h : St w W L) (hb : Below W.heap.size W W') (hn : ∀ k, o.ok k → W.heap.size ≤ k ∧ k < W'.heap.size) (hP : o.P W') (hf : Firm o) : St w W' (o :: L) := by
  have hq := h.quiet hb
  have hs := h.below.size
  refine ⟨hq.below, fun p hp => ?_, List.Pairwise.cons (fun p hp k hk hk2 => ?_) hq.apart⟩
  · rcases List.mem_cons.1 hp with rfl | hp
    · exact ⟨fun k hk => ⟨Nat.le_trans hs (hn k hk).1, (hn k hk).2⟩, hP, hf⟩
    · exact hq.own p hp
  · have := (h.own p hp).1 k hk2
    have := hn k hk
    omega
theorem St.addR (h : St w W L) (hb : Below W.heap.size W W') (hr : Kd.R d t W' W.heap.size ok v xs) : ∃ ok1, St w W' (obR d t w ok1 v xs :: L) :=
  ⟨_, h.add (o := obR d t w (fun k => W.heap.size ≤ k ∧ k < W'.heap.size) v xs) hb (fun _ hk => hk) (Kd.R_mono (Kd.R_lower (Kd.R_bound hr) h.below.size) (fun k hk => ⟨hk.2.1, hk.2.2.1⟩)) firmR⟩
theorem St.addS (h : St w W L) (hb : Below W.heap.size W W') (hr : Kd.S d t W' W.heap.size ok v xs) : ∃ ok1, St w W' (obS d t w ok1 v xs :: L) :=
  ⟨_, h.add (o := obS d t w (fun k => W.heap.size ≤ k ∧ k < W'.heap.size) v xs) hb (fun _ hk => hk) (Kd.S_mono (Kd.S_lower (Kd.S_bound hr) h.below.size) (fun k hk => ⟨hk.2.1, hk.2.2.1⟩)) firmS⟩
/-- two made at once, apart -/
theorem St.add2 (h : St w W L) (hb : Below W.heap.size W W') (hn : ∀ k, o.ok k → W.heap.size ≤ k ∧ k < W'.heap.size) (hP : o.P W') (hf : Firm o) (hn' : ∀ k, o'.ok k → W.heap.size ≤ k ∧ k < W'.heap.size) (hP' : o'.P W') (hf' : Firm o')
    (ha : ∀ k, o.ok k → ¬ o'.ok k) : St w W' (o :: o' :: L) := by
  have h1 := h.add hb hn' hP' hf'
  have hs := h.below.size
  refine ⟨h1.below, fun p hp => ?_, List.Pairwise.cons (fun p hp k hk hk2 => ?_) h1.apart⟩
  · rcases List.mem_cons.1 hp with rfl | hp
    · exact ⟨fun k hk => ⟨Nat.le_trans hs (hn k hk).1, (hn k hk).2⟩, hP, hf⟩
    · exact h1.own p hp
  · rcases List.mem_cons.1 hp with rfl | hp
    · exact ha k hk hk2
    · have := (h.own p hp).1 k hk2
      have := hn k hk
      omega
theorem St.addRS (hE : d.E = []) (h : St w W L) (hb : Below W.heap.size W W') (hr : Kd.R d t W' W.heap.size (fun _ => True) v xs) (hr' : Kd.S d' t' W' W.heap.size (fun k => some k ≠ v.ownBlock) v' ys) : ∃ ok1 ok2, St w W' (obR d t w ok1 v xs :: obS d' t' w ok2 v' ys :: L) := by
  have hs := h.below.size
  refine ⟨_, _, h.add2 (o := obR d t w (fun k => some k = v.ownBlock ∧ W.heap.size ≤ k ∧ k < W'.heap.size) v xs) (o' := obS d' t' w (fun k => some k ≠ v.ownBlock ∧ W.heap.size ≤ k ∧ k < W'.heap.size) v' ys) hb (fun _ hk => hk.2) ?_ firmR (fun _ hk => hk.2) ?_ firmS (fun _ hk hk2 => hk2.1 hk.1)⟩
  · exact Kd.R_mono (Kd.R_lower (Kd.R_bound (Kd.R_tight hE hr)) hs) (fun k hk => ⟨hk.1, hk.2.1, hk.2.2.1⟩)
  · exact Kd.S_mono (Kd.S_lower (Kd.S_bound hr') hs) (fun k hk => ⟨hk.1, hk.2.1, hk.2.2.1⟩)
theorem St.get (h : St w W L) (i : Nat) (hi : L[i]? = some o) : o.P W := (h.own o (List.mem_of_getElem? hi)).2.1
theorem St.mark (h : St w W L) (i : Nat) (hi : L[i]? = some o) (he : o'.ok = o.ok) (hf : Firm o') (hb : Below w.heap.size w W') (hk : Kept W W' o.ok) (hP : o'.P W') (hL : L.set i o' = L') : St w W' L' := by
  subst hL
  have hil := (List.getElem?_eq_some_iff.1 hi).1
  have hio := (List.getElem?_eq_some_iff.1 hi).2
  have hap : ∀ a b, a < L.length → (hb : b < L.length) → a ≠ b → ∀ x y, L[a]? = some x → L[b]? = some y → ∀ k, x.ok k → ¬ y.ok k := by
    intro a b ha hb hne x y hx hy k hxk hyk
    have hp := List.pairwise_iff_getElem.1 h.apart
    rcases Nat.lt_or_gt_of_ne hne with hlt | hlt
    · have := hp a b ha hb hlt k
      rw [List.getElem?_eq_getElem ha] at hx
      rw [List.getElem?_eq_getElem hb] at hy
      injection hx with hx; injection hy with hy
      rw [hx, hy] at this
      exact this hxk hyk
    · have := hp b a hb ha hlt k
      rw [List.getElem?_eq_getElem ha] at hx
      rw [List.getElem?_eq_getElem hb] at hy
      injection hx with hx; injection hy with hy
      rw [hx, hy] at this
      exact this hyk hxk
  refine ⟨hb, fun p hp => ?_, List.pairwise_iff_getElem.2 fun a b ha hb' hlt k => ?_⟩
  · obtain ⟨j, hj, rfl⟩ := List.mem_iff_getElem.1 hp
    rw [List.length_set] at hj
    by_cases hji : i = j
    · subst hji
      rw [List.getElem_set_self]
      have h1 := (h.own o (List.mem_of_getElem? hi)).1
      exact ⟨fun k hk' => ⟨(h1 k (he ▸ hk')).1, Nat.lt_of_lt_of_le (h1 k (he ▸ hk')).2 hk.1⟩, hP, hf⟩
    · rw [List.getElem_set_ne hji]
      obtain ⟨h1, h2, h3⟩ := h.own L[j] (List.getElem_mem hj)
      exact ⟨fun k hk' => ⟨(h1 k hk').1, Nat.lt_of_lt_of_le (h1 k hk').2 hk.1⟩, h3 W W' h2 (fun k hk' hlt => hk.2 k hlt (hap j i hj hil (Ne.symm hji) _ _ (List.getElem?_eq_getElem hj) hi k hk')), h3⟩
  · rw [List.length_set] at ha hb'
    have hx : ∀ j (hj : j < L.length) (hj' : j < (L.set i o').length), ((L.set i o')[j]).ok = (L[j]).ok := by
      intro j hj hj'
      by_cases hji : i = j
      · subst hji; rw [List.getElem_set_self, he, hio]
      · rw [List.getElem_set_ne hji]
    rw [hx a ha, hx b hb']
    exact List.pairwise_iff_getElem.1 h.apart a b ha hb' hlt k
/-- what an object is, read -/
def Reads (d : Kd α) (W : World) (v : Value) (xs : List α) : Prop := ∃ A c, v = .slice A xs.length c ∧ xs.length ≤ c ∧ d.C W A xs.length xs
theorem St.readR (h : St w W L) (i : Nat) (hi : L[i]? = some (obR d t w ok v xs)) : Reads d W v xs := Kd.R_reads (h.get i hi)
theorem St.readS (h : St w W L) (i : Nat) (hi : L[i]? = some (obS d t w ok v xs)) : Reads d W v xs := Kd.R_reads (Kd.S_R (h.get i hi))
/-- what came in, read -/
theorem St.came (h : St w W L) {A : Option Addr} {c : Nat} (hr : d.C w A xs.length xs) (hc : xs.length ≤ c) : Reads d W (.slice A xs.length c) xs := ⟨A, c, rfl, hc, Kd.C_below hr h.below⟩
end
end Go.Proofs.Ytdcdndfgdmcomaa.Q

set_option linter.unusedVariables false
set_option linter.unusedSimpArgs false
namespace Go.Proofs.Ytdcdndfgdmcomaa.Q
open Go.RowKit Go.Proofs.Ytdcdndfgdmcomaa.F Go.Proofs.YtdcdndfgdmcomaaW.PrintWords Go.Proofs.YtdcdndfgdmcomaaW.PrintLast Go.Proofs.YtdcdndfgdmcomaaW.PrintMore
section
variable {w W W' : World} {L L' : List Ob} {o : Ob}
theorem St.drop (h : St w W (o :: L)) : St w W L := ⟨h.below, fun p hp => h.own p (List.mem_cons_of_mem _ hp), (List.pairwise_cons.1 h.apart).2⟩
/-- a variable in memory -/
def obB (b : Nat) (cs : Array Value) (t : Nat) : Ob := ⟨fun k => k = b, fun W => W.heap[b]? = some (.cells cs t (0, 0))⟩
theorem firmB {b : Nat} {cs : Array Value} {t : Nat} : Firm (obB b cs t) := fun _ _ h hm => (hm b rfl (blk_lt h)).trans h
theorem St.cellB (h : St w W L) {b t : Nat} {cs : Array Value} (i : Nat) (hi : L[i]? = some (obB b cs t)) (j : Nat) {v : Value} (hv : cs[j]? = some v) : W.cell? ⟨b, j, none⟩ = some v := (blk_cell (show W.heap[b]? = some (.cells cs t (0, 0)) from h.get i hi) j).trans hv
theorem St.box (h : St w W L) (cs : Array Value) (t : Nat) : St w (W.alloc (.cells cs t (0, 0))) (obB W.heap.size cs t :: L) := by
  have e1 : (W.alloc (.cells cs t (0, 0))).heap.size = W.heap.size + 1 := by show (W.heap.push _).size = _; exact Array.size_push ..
  refine h.add (o := obB W.heap.size cs t) (below_alloc (Below.refl _ _) _) (fun k hk => ?_) ?_ firmB
  · have h1 : k = W.heap.size := hk
    omega
  · show (W.heap.push _)[W.heap.size]? = _
    exact Array.getElem?_push_size
end
end Go.Proofs.Ytdcdndfgdmcomaa.Q

set_option linter.unusedVariables false
set_option linter.unusedSimpArgs false
namespace Go.Proofs.Ytdcdndfgdmcomaa.Q
open Go.RowKit Go.Proofs.Ytdcdndfgdmcomaa.F Go.Proofs.YtdcdndfgdmcomaaW.PrintWords Go.Proofs.YtdcdndfgdmcomaaW.PrintLast Go.Proofs.YtdcdndfgdmcomaaW.PrintMore
section
variable {w W w1 : World} {L L' : List Ob} {b t : Nat} {cs cs' : Array Value} {x0 x1 : Value} {o o' o'' : Ob}
theorem St.putB (h : St w W L) (i : Nat) (hi : L[i]? = some (obB b cs t)) (j : Nat) (u : Value) (hc : cs.setIfInBounds j u = cs') : St w (W.setCell ⟨b, j, none⟩ u) (L.set i (obB b cs' t)) := by
  have hb : w.heap.size ≤ b := ((h.own _ (List.mem_of_getElem? hi)).1 b rfl).1
  refine h.mark (o' := obB b cs' t) i hi rfl firmB (below_set h.below hb) ⟨by simp [World.setCell], fun k _ hk => ?_⟩ (blk_put (show W.heap[b]? = some (.cells cs t (0, 0)) from h.get i hi) j u hc) rfl
  have hk' : k ≠ b := hk
  exact Below.heap_setCell _ _ _ _ hk'
theorem St.addB (h : St w W L) {W' : World} (hx : W'.heap[b]? = some (.cells cs t (0, 0))) (hb : b = W.heap.size) (hl : Below W.heap.size W W') : St w W' (obB b cs t :: L) :=
  h.add (o := obB b cs t) hl (fun k hk => by have h1 : k = b := hk; have h2 := blk_lt hx; omega) hx firmB
theorem St.heapB (h : St w W L) (i : Nat) (hi : L[i]? = some (obB b cs t)) : W.heap[b]? = some (.cells cs t (0, 0)) := h.get i hi
theorem St.giveRS {α β : Type} {d : Kd α} {d' : Kd β} {t t' : Nat} {ok0 ok1 : Nat → Prop} {v0 v1 : Value} {xs : List α} {ys : List β} (h : St w W L) (i j : Nat) (hij : i < j) (hi : L[i]? = some (obR d t w ok0 v0 xs)) (hj : L[j]? = some (obS d' t' w ok1 v1 ys)) :
    Kd.R d t W w.heap.size (fun _ => True) v0 xs ∧ Kd.S d' t' W w.heap.size (fun k_ => some k_ ≠ (v0 : Value).ownBlock) v1 ys ∧ Below w.heap.size w W := by
  have hR : Kd.R d t W w.heap.size ok0 v0 xs := h.get i hi
  have hS : Kd.S d' t' W w.heap.size ok1 v1 ys := h.get j hj
  refine ⟨Kd.R_mono hR (fun _ _ => trivial), Kd.S_mono hS (fun k hk e => ?_), h.below⟩
  obtain ⟨hil, hi'⟩ := List.getElem?_eq_some_iff.1 hi
  obtain ⟨hjl, hj'⟩ := List.getElem?_eq_some_iff.1 hj
  have hp := List.pairwise_iff_getElem.1 h.apart i j hil hjl hij k
  rw [hi', hj'] at hp
  exact hp (hR.1 k e.symm) hk
theorem St.giveSR {α β : Type} {d : Kd α} {d' : Kd β} {t t' : Nat} {ok0 ok1 : Nat → Prop} {v0 v1 : Value} {xs : List α} {ys : List β} (h : St w W L) (i j : Nat) (hij : j < i) (hi : L[i]? = some (obR d t w ok0 v0 xs)) (hj : L[j]? = some (obS d' t' w ok1 v1 ys)) :
    Kd.R d t W w.heap.size (fun _ => True) v0 xs ∧ Kd.S d' t' W w.heap.size (fun k_ => some k_ ≠ (v0 : Value).ownBlock) v1 ys ∧ Below w.heap.size w W := by
  have hR : Kd.R d t W w.heap.size ok0 v0 xs := h.get i hi
  have hS : Kd.S d' t' W w.heap.size ok1 v1 ys := h.get j hj
  refine ⟨Kd.R_mono hR (fun _ _ => trivial), Kd.S_mono hS (fun k hk e => ?_), h.below⟩
  obtain ⟨hil, hi'⟩ := List.getElem?_eq_some_iff.1 hi
  obtain ⟨hjl, hj'⟩ := List.getElem?_eq_some_iff.1 hj
  have hp := List.pairwise_iff_getElem.1 h.apart j i hjl hil hij k
  rw [hi', hj'] at hp
  exact hp hk (hR.1 k e.symm)
theorem Reads.C {α : Type} {d : Kd α} {A : Option Addr} {c : Nat} {xs : List α} (h : Reads d W (.slice A xs.length c) xs) : xs.length ≤ c ∧ d.C W A xs.length xs := by
  obtain ⟨A', c', e, h1, h2⟩ := h
  cases e
  exact ⟨h1, h2⟩
/-- a literal of two rows, read -/
theorem rows2_C {A1 A2 : Option Addr} {k1 k2 e : Nat} {y1 y2 : List Int} (h1 : Reads (Kd.int .i64) W (.slice A1 y1.length k1) y1) (h2 : Reads (Kd.int .i64) W (.slice A2 y2.length k2) y2) (hb : W.heap[b]? = some (.cells #[.slice A1 y1.length k1, .slice A2 y2.length k2] t (0, 0))) :
    Reads (Kd.slice e (Kd.int .i64)) W (.slice (some ⟨b, 0, none⟩) 2 2) [y1, y2] := by
  refine ⟨_, _, rfl, Nat.le_refl _, rfl, (show 2 ≤ 9223372036854775807 by decide), fun _ => ⟨_, rfl, fun j p hj => ?_⟩⟩
  match j, hj with
  | 0, hj =>
    obtain rfl : y1 = p := by simpa using hj
    refine ⟨[.slice A1 y1.length k1], rfl, ⟨A1, k1, rfl, (Reads.C h1).1, (Reads.C h1).2⟩, fun i u hu => ?_⟩
    match i, hu with
    | 0, hu =>
      obtain rfl : Value.slice A1 y1.length k1 = u := by simpa using hu
      exact (blk_cell hb 0).trans rfl
  | 1, hj =>
    obtain rfl : y2 = p := by simpa using hj
    refine ⟨[.slice A2 y2.length k2], rfl, ⟨A2, k2, rfl, (Reads.C h2).1, (Reads.C h2).2⟩, fun i u hu => ?_⟩
    match i, hu with
    | 0, hu =>
      obtain rfl : Value.slice A2 y2.length k2 = u := by simpa using hu
      exact (blk_cell hb 1).trans rfl
end
end Go.Proofs.Ytdcdndfgdmcomaa.Q

set_option linter.unusedVariables false
set_option linter.unusedSimpArgs false
namespace Go.Proofs.Ytdcdndfgdmcomaa.Q
open Go.RowKit Go.Proofs.Ytdcdndfgdmcomaa.F Go.Proofs.YtdcdndfgdmcomaaW.PrintWords Go.Proofs.YtdcdndfgdmcomaaW.PrintLast Go.Proofs.YtdcdndfgdmcomaaW.PrintMore
/-- how often the numbers 1 to n occur -/
def sumCount (l : List Int) : Nat → Nat
  | 0 => 0
  | n + 1 => sumCount l n + l.countP (fun x => decide (x = ((n + 1 : Nat) : Int)))
theorem countP_split (l : List Int) (p q r : Int → Bool) (h : ∀ x ∈ l, (if r x then 1 else 0) = (if p x then 1 else 0) + (if q x then (1 : Nat) else 0)) : l.countP r = l.countP p + l.countP q := by
  induction l with
  | nil => rfl
  | cons x l ih =>
    have h1 := h x (by simp)
    have h2 := ih (fun y hy => h y (by simp [hy]))
    simp only [List.countP_cons]
    omega
theorem sumCount_eq (l : List Int) (n : Nat) : sumCount l n = l.countP (fun x => decide (1 ≤ x ∧ x ≤ (n : Int))) := by
  induction n with
  | zero =>
    rw [sumCount]; symm
    rw [List.countP_eq_zero]
    intro x _; simp; omega
  | succ n ih =>
    rw [sumCount, ih]; symm
    apply countP_split
    intro x _
    by_cases h1 : 1 ≤ x ∧ x ≤ (n : Int)
    · have : ¬ x = ((n + 1 : Nat) : Int) := by omega
      have h3 : 1 ≤ x ∧ x ≤ ((n + 1 : Nat) : Int) := by omega
      simp only [decide_eq_true h1, decide_eq_true h3, decide_eq_false this]; rfl
    · by_cases h2 : x = ((n + 1 : Nat) : Int)
      · have h3 : 1 ≤ x ∧ x ≤ ((n + 1 : Nat) : Int) := by omega
        simp only [decide_eq_false h1, decide_eq_true h3, decide_eq_true h2]; rfl
      · have h3 : ¬ (1 ≤ x ∧ x ≤ ((n + 1 : Nat) : Int)) := by omega
        simp only [decide_eq_false h1, decide_eq_false h3, decide_eq_false h2]; rfl
theorem countP_pos_of_mem {l : List Int} {v : Int} (h : v ∈ l) : 1 ≤ l.countP (fun x => decide (x = v)) := by
  have : 0 < l.countP (fun x => decide (x = v)) := List.countP_pos_iff.2 ⟨v, h, by simp⟩
  omega
theorem mem_of_countP {l : List Int} {v : Int} (h : 1 ≤ l.countP (fun x => decide (x = v))) : v ∈ l := by
  obtain ⟨x, hx, he⟩ := List.countP_pos_iff.1 (show 0 < l.countP (fun x => decide (x = v)) by omega)
  rw [decide_eq_true_eq] at he
  exact he ▸ hx
theorem nodup_count {l : List Int} (h : l.Nodup) (v : Int) : l.countP (fun x => decide (x = v)) ≤ 1 := by
  have := List.nodup_iff_count.1 h v
  rw [List.count] at this
  refine Nat.le_trans (Nat.le_of_eq ?_) this
  apply List.countP_congr
  intro x _; simp
theorem nodup_of_count {l : List Int} (h : ∀ v, l.countP (fun x => decide (x = v)) ≤ 1) : l.Nodup := by
  rw [List.nodup_iff_count]
  intro v
  rw [List.count]
  refine Nat.le_trans (Nat.le_of_eq ?_) (h v)
  apply List.countP_congr
  intro x _; simp
theorem sumCount_ge {l : List Int} (n : Nat) (h : ∀ v : Nat, 1 ≤ v → v ≤ n → (v : Int) ∈ l) : n ≤ sumCount l n := by
  induction n with
  | zero => omega
  | succ n ih =>
    have h1 := ih (fun v a b => h v a (by omega))
    have h2 := countP_pos_of_mem (h (n + 1) (by omega) (by omega))
    rw [sumCount]; omega
theorem sumCount_le {l : List Int} (hd : l.Nodup) (n : Nat) : sumCount l n ≤ n := by
  induction n with
  | zero => simp [sumCount]
  | succ n ih =>
    have := nodup_count hd ((n + 1 : Nat) : Int)
    rw [sumCount]; omega
theorem sumCount_tight {l : List Int} (n : Nat) (hle : sumCount l n ≤ n) (h : ∀ v : Nat, 1 ≤ v → v ≤ n → (v : Int) ∈ l) : ∀ v : Nat, 1 ≤ v → v ≤ n → l.countP (fun x => decide (x = (v : Int))) = 1 := by
  induction n with
  | zero => intro v a b; omega
  | succ n ih =>
    have h1 := sumCount_ge n (fun v a b => h v a (by omega))
    have h2 := countP_pos_of_mem (h (n + 1) (by omega) (by omega))
    rw [sumCount] at hle
    intro v a b
    by_cases e : v = n + 1
    · subst e; omega
    · exact ih (by omega) (fun v a b => h v a (by omega)) v a (by omega)
theorem sumCount_full {l : List Int} (hd : l.Nodup) (n : Nat) (hge : n ≤ sumCount l n) : ∀ v : Nat, 1 ≤ v → v ≤ n → (v : Int) ∈ l := by
  induction n with
  | zero => intro v a b; omega
  | succ n ih =>
    have h1 := sumCount_le hd n
    have h2 := nodup_count hd ((n + 1 : Nat) : Int)
    rw [sumCount] at hge
    intro v a b
    by_cases e : v = n + 1
    · subst e; exact mem_of_countP (by omega)
    · exact ih (by omega) v a (by omega)
/-- Each number from 1 to the length occurs: just where none occurs twice and none is greater. -/
theorem once_iff {l : List Int} (hp : ∀ x ∈ l, 1 ≤ x) : (∀ v : Nat, 1 ≤ v → v ≤ l.length → (v : Int) ∈ l) ↔ (l.Nodup ∧ ∀ x ∈ l, x ≤ (l.length : Int)) := by
  constructor
  · intro h
    have h1 := sumCount_ge l.length h
    have h2 : sumCount l l.length ≤ l.length := by rw [sumCount_eq]; exact List.countP_le_length
    have h3 : l.countP (fun x => decide (1 ≤ x ∧ x ≤ (l.length : Int))) = l.length := by rw [← sumCount_eq]; omega
    have h4 : ∀ x ∈ l, x ≤ (l.length : Int) := by
      intro x hx
      have := List.countP_eq_length.1 h3 x hx
      simp at this; exact this.2
    refine ⟨nodup_of_count (fun v => ?_), h4⟩
    by_cases hv : v ∈ l
    · have a := hp v hv
      have b := h4 v hv
      obtain ⟨m, rfl⟩ : ∃ m : Nat, v = (m : Int) := ⟨v.toNat, by omega⟩
      exact Nat.le_of_eq (sumCount_tight l.length h2 h m (by omega) (by omega))
    · rw [Nat.le_one_iff_eq_zero_or_eq_one]; left
      rw [List.countP_eq_zero]
      intro x hx he
      rw [decide_eq_true_eq] at he
      exact hv (he ▸ hx)
  · rintro ⟨hd, hle⟩
    refine sumCount_full hd l.length ?_
    rw [sumCount_eq, List.countP_eq_length.2]
    · exact Nat.le_refl _
    · intro x hx; rw [decide_eq_true_eq]; exact ⟨hp x hx, hle x hx⟩
/-- how many of the first j indices stand ahead of index i: by a smaller number, or by an equal one at a smaller index -/
def placeTo (l : List Int) (i : Nat) : Nat → Nat
  | 0 => 0
  | j + 1 => placeTo l i j + (if rd l (j : Int) < rd l (i : Int) ∨ (rd l (j : Int) = rd l (i : Int) ∧ j < i) then 1 else 0)
def placeOf (l : List Int) (i : Nat) : Int := ((1 + placeTo l i l.length : Nat) : Int)
/-- the places of a list's numbers -/
def places (l : List Int) : List Int := (List.range l.length).map (placeOf l)
theorem placeTo_le (l : List Int) (i : Nat) : ∀ j, placeTo l i j + (if i < j then 1 else 0) ≤ j := by
  intro j
  induction j with
  | zero => simp [placeTo]
  | succ j ih =>
    rw [placeTo]
    by_cases e : j = i
    · subst e
      have : ¬ (rd l (j : Int) < rd l (j : Int) ∨ (rd l (j : Int) = rd l (j : Int) ∧ j < j)) := by omega
      rw [if_neg this]
      rw [if_neg (by omega)] at ih
      rw [if_pos (by omega)]; omega
    · by_cases h2 : i < j
      · rw [if_pos h2] at ih
        rw [if_pos (show i < j + 1 by omega)]
        split <;> omega
      · rw [if_neg h2] at ih
        rw [if_neg (show ¬ i < j + 1 by omega)]
        split <;> omega
theorem placeTo_lt {l : List Int} {i i' : Nat} (h : rd l (i : Int) < rd l (i' : Int) ∨ (rd l (i : Int) = rd l (i' : Int) ∧ i < i')) : ∀ j, placeTo l i j + (if i < j then 1 else 0) ≤ placeTo l i' j := by
  intro j
  induction j with
  | zero => simp [placeTo]
  | succ j ih =>
    rw [placeTo, placeTo]
    by_cases e : j = i
    · subst e
      have : ¬ (rd l (j : Int) < rd l (j : Int) ∨ (rd l (j : Int) = rd l (j : Int) ∧ j < j)) := by omega
      rw [if_neg this, if_pos h]
      rw [if_neg (by omega)] at ih
      rw [if_pos (by omega)]; omega
    · have hs : (if i < j + 1 then 1 else 0) = (if i < j then 1 else 0) := by
        by_cases h2 : i < j
        · rw [if_pos h2, if_pos (by omega)]
        · rw [if_neg h2, if_neg (by omega)]
      rw [hs]
      generalize (if i < j then 1 else 0) = q at ih ⊢
      by_cases hc : rd l (j : Int) < rd l (i : Int) ∨ (rd l (j : Int) = rd l (i : Int) ∧ j < i)
      · have hc' : rd l (j : Int) < rd l (i' : Int) ∨ (rd l (j : Int) = rd l (i' : Int) ∧ j < i') := by omega
        rw [if_pos hc, if_pos hc']; omega
      · rw [if_neg hc]; split <;> omega
theorem places_length (l : List Int) : (places l).length = l.length := by simp [places]
theorem places_get (l : List Int) (i : Nat) (h : i < l.length) : rd (places l) (i : Int) = placeOf l i := by
  rw [rd_eq _ i (by rw [places_length]; exact h)]
  simp [places]
theorem placeOf_bd (l : List Int) (i : Nat) (h : i < l.length) : 1 ≤ placeOf l i ∧ placeOf l i ≤ (l.length : Int) := by
  have := placeTo_le l i l.length
  rw [if_pos h] at this
  unfold placeOf; omega
theorem mem_rd {l : List Int} {x : Int} (h : x ∈ l) : ∃ i, i < l.length ∧ rd l (i : Int) = x := by
  obtain ⟨i, hi, he⟩ := List.getElem_of_mem h
  exact ⟨i, hi, by rw [rd_eq l i hi]; exact he⟩
theorem ext_rd {a b : List Int} (hl : a.length = b.length) (h : ∀ i, i < a.length → rd a (i : Int) = rd b (i : Int)) : a = b := by
  apply List.ext_getElem hl
  intro i h1 h2
  rw [← rd_eq a i h1, ← rd_eq b i h2]
  exact h i h1
theorem nodup_rd {l : List Int} (h : ∀ i j, i < j → j < l.length → rd l (i : Int) ≠ rd l (j : Int)) : l.Nodup := by
  rw [List.nodup_iff_pairwise_ne, List.pairwise_iff_getElem]
  intro i j hi hj hij
  rw [← rd_eq l i hi, ← rd_eq l j hj]
  exact h i j hij hj
theorem rd_nodup {l : List Int} (h : l.Nodup) (i j : Nat) (hij : i < j) (hj : j < l.length) : rd l (i : Int) ≠ rd l (j : Int) := by
  rw [List.nodup_iff_pairwise_ne, List.pairwise_iff_getElem] at h
  rw [rd_eq l i (by omega), rd_eq l j hj]
  exact h i j (by omega) hj hij
theorem placeTo_nodup {l : List Int} (hd : l.Nodup) (i : Nat) (hi : i < l.length) : ∀ j, j ≤ l.length → placeTo l i j = (l.take j).countP (fun x => decide (x < rd l (i : Int))) := by
  intro j
  induction j with
  | zero => intro _; simp [placeTo]
  | succ j ih =>
    intro hj
    rw [placeTo, ih (by omega), take_rd l j (by omega), List.countP_append]
    congr 1
    by_cases hc : rd l (j : Int) < rd l (i : Int)
    · rw [if_pos (.inl hc)]; simp [hc]
    · rw [if_neg]
      · simp [hc]
      · rintro (h | ⟨h, hlt⟩)
        · exact hc h
        · exact rd_nodup hd j i hlt hi h
/-- A list whose numbers are 1 and more is the list of its places just where each number from 1 to its length occurs. -/
theorem places_iff {l : List Int} (hp : ∀ x ∈ l, 1 ≤ x) : places l = l ↔ ∀ v : Nat, 1 ≤ v → v ≤ l.length → (v : Int) ∈ l := by
  rw [once_iff hp]
  constructor
  · intro h
    have hg : ∀ i, i < l.length → rd l (i : Int) = placeOf l i := fun i hi => by rw [← places_get l i hi, h]
    refine ⟨nodup_rd (fun i j hij hj he => ?_), fun x hx => ?_⟩
    · have := placeTo_lt (l := l) (i := i) (i' := j) (.inr ⟨he, hij⟩) l.length
      rw [if_pos (by omega)] at this
      rw [hg i (by omega), hg j hj] at he
      unfold placeOf at he; omega
    · obtain ⟨i, hi, rfl⟩ := mem_rd hx
      rw [hg i hi]
      exact (placeOf_bd l i hi).2
  · rintro ⟨hd, hle⟩
    have hall := (once_iff hp).2 ⟨hd, hle⟩
    refine ext_rd (places_length l) (fun i hi => ?_)
    rw [places_length] at hi
    rw [places_get l i hi]
    have hm := rd_mem l i hi
    have h1 := hp _ hm
    have h2 := hle _ hm
    unfold placeOf
    rw [placeTo_nodup hd i hi l.length (Nat.le_refl _), List.take_length]
    obtain ⟨v, hv⟩ : ∃ v : Nat, rd l (i : Int) = ((v + 1 : Nat) : Int) := ⟨(rd l (i : Int) - 1).toNat, by omega⟩
    rw [hv]
    have e : l.countP (fun x => decide (x < ((v + 1 : Nat) : Int))) = sumCount l v := by
      rw [sumCount_eq]
      apply List.countP_congr
      intro x hx
      have := hp x hx
      simp; omega
    have h3 : sumCount l v = v := by
      have a := sumCount_le hd v
      have b := sumCount_ge (l := l) v (fun u a b => hall u a (by omega))
      omega
    rw [e, h3]; omega
end Go.Proofs.Ytdcdndfgdmcomaa.Q

set_option linter.unusedVariables false
set_option linter.unusedSimpArgs false
namespace Go.Proofs.Ytdcdndfgdmcomaa.Q
open Go.RowKit Go.Proofs.Ytdcdndfgdmcomaa.F Go.Proofs.YtdcdndfgdmcomaaW.PrintWords Go.Proofs.YtdcdndfgdmcomaaW.PrintLast Go.Proofs.YtdcdndfgdmcomaaW.PrintMore
theorem rows_nat (l : List (List Int)) (i : Nat) : rd_L1 l (i : Int) = l.getD i [] := by unfold rd_L1; simp
theorem rows_eq (l : List (List Int)) (i : Nat) (h : i < l.length) : rd_L1 l (i : Int) = l[i] := by rw [rows_nat]; simp [h]
theorem drop_rows (l : List (List Int)) (i : Nat) (h : i < l.length) : l.drop i = rd_L1 l (i : Int) :: l.drop (i + 1) := by
  rw [rows_eq l i h]; exact List.drop_eq_getElem_cons h
theorem take_rows (l : List (List Int)) (i : Nat) (h : i < l.length) : l.take (i + 1) = l.take i ++ [rd_L1 l (i : Int)] := by
  rw [rows_eq l i h]; exact List.take_succ_eq_append_getElem h
theorem rows_mem (l : List (List Int)) (i : Nat) (h : i < l.length) : rd_L1 l (i : Int) ∈ l := by rw [rows_eq l i h]; exact List.getElem_mem h
def isum : List Int → Int
  | [] => 0
  | x :: l => x + isum l
def msum : List (List Int) → Int
  | [] => 0
  | r :: m => isum r + msum m
/-- how many numbers a list of lists holds -/
def bulk : List (List Int) → Nat
  | [] => 0
  | r :: m => r.length + bulk m
theorem isum_nonneg {l : List Int} (h : ∀ x ∈ l, 0 ≤ x) : 0 ≤ isum l := by
  induction l with
  | nil => exact Int.le_refl _
  | cons x l ih =>
    have h1 := h x (by simp)
    have h2 := ih (fun y hy => h y (by simp [hy]))
    unfold isum; omega
theorem isum_le {l : List Int} {b : Nat} (h : ∀ x ∈ l, x ≤ (b : Int)) : isum l ≤ ((b * l.length : Nat) : Int) := by
  induction l with
  | nil => simp [isum]
  | cons x l ih =>
    have h1 := h x (by simp)
    have h2 := ih (fun y hy => h y (by simp [hy]))
    unfold isum
    rw [List.length_cons, Nat.mul_add]
    omega
theorem isum_append (a b : List Int) : isum (a ++ b) = isum a + isum b := by
  induction a with
  | nil => simp [isum]
  | cons x l ih => simp [isum, ih]; omega
theorem msum_nonneg {m : List (List Int)} (h : ∀ r ∈ m, ∀ x ∈ r, 0 ≤ x) : 0 ≤ msum m := by
  induction m with
  | nil => exact Int.le_refl _
  | cons r m ih =>
    have h1 := isum_nonneg (h r (by simp))
    have h2 := ih (fun y hy => h y (by simp [hy]))
    unfold msum; omega
theorem bulk_mem {m : List (List Int)} {r : List Int} (h : r ∈ m) : r.length ≤ bulk m := by
  induction m with
  | nil => simp at h
  | cons q m ih =>
    unfold bulk
    rcases List.mem_cons.1 h with rfl | h
    · omega
    · have := ih h; omega
end Go.Proofs.Ytdcdndfgdmcomaa.Q

set_option linter.unusedVariables false
set_option linter.unusedSimpArgs false
namespace Go.Proofs.Ytdcdndfgdmcomaa.Q
open Go.RowKit Go.Proofs.Ytdcdndfgdmcomaa.F Go.Proofs.YtdcdndfgdmcomaaW.PrintWords Go.Proofs.YtdcdndfgdmcomaaW.PrintLast Go.Proofs.YtdcdndfgdmcomaaW.PrintMore
theorem spec_l1In_eq (a b c : Int) : spec_l1In.f a b c = some (decide (b ≤ a ∧ a ≤ c)) := by
  unfold spec_l1In.f
  by_cases h : b ≤ a
  · rw [if_pos h]; simp [h]
  · rw [if_neg h]; simp [h]
end Go.Proofs.Ytdcdndfgdmcomaa.Q

set_option linter.unusedVariables false
set_option linter.unusedSimpArgs false
namespace Go.Proofs.Ytdcdndfgdmcomaa.Q
open Go.RowKit Go.Proofs.Ytdcdndfgdmcomaa.F Go.Proofs.YtdcdndfgdmcomaaW.PrintWords Go.Proofs.YtdcdndfgdmcomaaW.PrintLast Go.Proofs.YtdcdndfgdmcomaaW.PrintMore
def at0 (l : List Int) (i : Int) : Int := if 0 ≤ i ∧ i < (l.length : Int) then rd l i else 0
theorem at0_nat (l : List Int) (i : Nat) (h : i < l.length) : at0 l (i : Int) = rd l (i : Int) := by unfold at0; rw [if_pos (by omega)]
theorem at0_out (l : List Int) (i : Int) (h : i < 0 ∨ (l.length : Int) ≤ i) : at0 l i = 0 := by unfold at0; rw [if_neg (by omega)]
theorem impl_within_eq (a b c : Int) : impl_within.f a b c = some (decide (b ≤ a ∧ a ≤ c)) := rfl
theorem impl_at_eq (l : List Int) (i : Int) (hl : l.length ≤ 1048576) : impl_at.f l i = some (at0 l i) := by
  unfold impl_at.f at0
  rw [wrap_id (by omega) (by omega), impl_within_eq]
  simp only [Option.bind_some]
  by_cases h : 0 ≤ i ∧ i < (l.length : Int)
  · rw [if_pos h, if_pos (by rw [decide_eq_true_eq]; omega), if_pos h.1, if_pos h.2]
  · rw [if_neg h, if_neg (by rw [decide_eq_true_eq]; omega)]
theorem spec_l2At_eq (l : List Int) (i : Int) : spec_l2At.f l i = some (at0 l i) := by
  unfold spec_l2At.f at0
  by_cases h1 : i < 0
  · rw [if_pos h1, if_neg (by omega)]
  · rw [if_neg h1]
    by_cases h2 : i ≥ (l.length : Int)
    · rw [if_pos h2, if_neg (by omega)]
    · rw [if_neg h2, if_pos (by omega), if_pos (by omega), if_pos (by omega)]
/-- the numbers go on from 'prev' without rising, each is 1 or more, with 's' they add up to at most 9 -/
def partOk (prev s : Int) : List Int → Bool
  | [] => true
  | x :: l => decide (1 ≤ x ∧ x ≤ 9) && decide (x ≤ prev) && decide (s + x ≤ 9) && partOk x (s + x) l
def isPartition (l : List Int) : Bool := partOk 9 0 l
theorem partOk_sum {l : List Int} : ∀ {prev s : Int}, s ≤ 9 → partOk prev s l = true → s + isum l ≤ 9 ∧ s + l.length ≤ 9 ∧ ∀ x ∈ l, 1 ≤ x ∧ x ≤ 9 := by
  induction l with
  | nil => intro prev s h _; simp [isum, h]
  | cons x l ih =>
    intro prev s h hp
    simp only [partOk, Bool.and_eq_true, decide_eq_true_eq] at hp
    obtain ⟨⟨⟨h1, h2⟩, h3⟩, h4⟩ := hp
    obtain ⟨g1, g2, g3⟩ := ih h3 h4
    simp only [isum, List.length_cons]
    refine ⟨by omega, by omega, fun y hy => ?_⟩
    rcases List.mem_cons.1 hy with rfl | hy
    · exact h1
    · exact g3 y hy
theorem isPartition_bd {l : List Int} (h : isPartition l = true) : isum l ≤ 9 ∧ l.length ≤ 9 ∧ ∀ x ∈ l, 1 ≤ x ∧ x ≤ 9 := by
  obtain ⟨h1, h2, h3⟩ := partOk_sum (by omega) h
  exact ⟨by omega, by omega, h3⟩
theorem bool_not_t {X : Bool} (h : true = !X) : X = false := by cases X <;> simp_all
theorem bool_not_f {X : Bool} (h : false = !X) : X = true := by cases X <;> simp_all
/-- the number ahead of index i; 9 ahead of the first -/
def before (l : List Int) (i : Nat) : Int := match i with | 0 => 9 | i + 1 => rd l (i : Int)
theorem spec_IsPartition_ev (l : List Int) (hl : l.length ≤ 1048576) : Ev (fun k => spec_IsPartition.f k l) (isPartition l) := by
  have key : ∀ i, i ≤ l.length → ∀ s : Int, 0 ≤ s → s ≤ 9 → Ev (fun k => spec_IsPartition.l0 k l s (i : Int)) (partOk (before l i) s (l.drop i)) := by
    refine downTo l.length ?_ ?_
    · intro s a b
      refine Ev.step (fun k => by rw [spec_IsPartition.l0]) ?_
      exact ev_neg (by omega) (ev_val (by rw [List.drop_length]; rfl))
    · intro i hi ih s a b
      have hstep : ∀ c : Bool, (c = !(decide (1 ≤ rd l (i : Int) ∧ rd l (i : Int) ≤ 9) && decide (rd l (i : Int) ≤ before l i))) → Ev (fun k => spec_IsPartition.j1 k l s (i : Int) c) (partOk (before l i) s (l.drop i)) := by
        intro c hc
        refine Ev.step (fun k => by rw [spec_IsPartition.j1]) ?_
        rw [drop_rd l i hi]
        simp only [partOk]
        cases c with
        | true =>
          refine ev_pos rfl (ev_val ?_)
          have : (decide (1 ≤ rd l (i : Int) ∧ rd l (i : Int) ≤ 9) && decide (rd l (i : Int) ≤ before l i)) = false := bool_not_t hc
          rw [this]; rfl
        | false =>
          have hg : (decide (1 ≤ rd l (i : Int) ∧ rd l (i : Int) ≤ 9) && decide (rd l (i : Int) ≤ before l i)) = true := bool_not_f hc
          have h1 : 1 ≤ rd l (i : Int) ∧ rd l (i : Int) ≤ 9 := by simp only [Bool.and_eq_true, decide_eq_true_eq] at hg; exact hg.1
          rw [hg, Bool.true_and, wrap_id (i := s + rd l (i : Int)) (by omega) (by omega)]
          refine ev_neg (by simp) (ev_pos (by omega) (ev_pos (by omega) (ev_ite (fun h => ev_val ?_) (fun h => ?_))))
          · rw [decide_eq_false (by omega)]; rfl
          · rw [wrap_succ (by omega), decide_eq_true (by omega), Bool.true_and]
            exact ih _ (by omega) (by omega)
      refine Ev.step (fun k => by rw [spec_IsPartition.l0]) ?_
      refine ev_pos (by omega) (ev_pos (by omega) (ev_bindc (spec_l1In_eq _ _ _) (ev_ite (fun h => ?_) (fun h => ?_))))
      · cases i with
        | zero =>
          refine ev_neg (by omega) (hstep false ?_)
          rw [decide_eq_true_eq] at h
          have h' : rd l ((0 : Nat) : Int) ≤ before l 0 := by show _ ≤ (9 : Int); omega
          rw [decide_eq_true h, decide_eq_true h']; rfl
        | succ i =>
          have e : wrap64 (((i + 1 : Nat) : Int) - 1) = (i : Int) := by unfold wrap64; omega
          rw [e]
          refine ev_pos (by omega) (ev_pos (by omega) (ev_pos (by omega) (hstep _ ?_)))
          rw [h, Bool.true_and]
          show decide (rd l ((i + 1 : Nat) : Int) > rd l (i : Int)) = !decide (rd l ((i + 1 : Nat) : Int) ≤ rd l (i : Int))
          by_cases g : rd l ((i + 1 : Nat) : Int) ≤ rd l (i : Int)
          · rw [decide_eq_true g, decide_eq_false (by omega)]; rfl
          · rw [decide_eq_false g, decide_eq_true (by omega)]; rfl
      · refine hstep true ?_
        simp only [Bool.not_eq_true] at h
        rw [h]; rfl
  unfold spec_IsPartition.f isPartition
  have := key 0 (by omega) 0 (by omega) (by omega)
  rw [List.drop_zero] at this
  exact this
theorem impl_IsPartition_ev (l : List Int) (hl : l.length ≤ 1048576) : Ev (fun k => impl_IsPartition.f k l) (isPartition l) := by
  have key : ∀ i, i ≤ l.length → ∀ s : Int, 0 ≤ s → s ≤ 9 → Ev (fun k => impl_IsPartition.l0 k l s l (l.length : Int) (i : Int)) (partOk (before l i) s (l.drop i)) := by
    refine downTo l.length ?_ ?_
    · intro s a b
      refine Ev.step (fun k => by rw [impl_IsPartition.l0]) ?_
      exact ev_neg (by omega) (ev_val (by rw [List.drop_length]; rfl))
    · intro i hi ih s a b
      have hstep : ∀ c : Bool, (c = !(decide (1 ≤ rd l (i : Int) ∧ rd l (i : Int) ≤ 9) && decide (rd l (i : Int) ≤ before l i))) → Ev (fun k => impl_IsPartition.j1 k l s (rd l (i : Int)) l (l.length : Int) (i : Int) c) (partOk (before l i) s (l.drop i)) := by
        intro c hc
        refine Ev.step (fun k => by rw [impl_IsPartition.j1]) ?_
        rw [drop_rd l i hi]
        simp only [partOk]
        cases c with
        | true =>
          refine ev_pos rfl (ev_val ?_)
          have : (decide (1 ≤ rd l (i : Int) ∧ rd l (i : Int) ≤ 9) && decide (rd l (i : Int) ≤ before l i)) = false := bool_not_t hc
          rw [this]; rfl
        | false =>
          have hg : (decide (1 ≤ rd l (i : Int) ∧ rd l (i : Int) ≤ 9) && decide (rd l (i : Int) ≤ before l i)) = true := bool_not_f hc
          have h1 : 1 ≤ rd l (i : Int) ∧ rd l (i : Int) ≤ 9 := by simp only [Bool.and_eq_true, decide_eq_true_eq] at hg; exact hg.1
          rw [hg, Bool.true_and, wrap_id (i := s + rd l (i : Int)) (by omega) (by omega)]
          refine ev_neg (by simp) (ev_ite (fun h => ev_val ?_) (fun h => ?_))
          · rw [decide_eq_false (by omega)]; rfl
          · rw [wrap_succ (by omega), decide_eq_true (by omega), Bool.true_and]
            exact ih _ (by omega) (by omega)
      refine Ev.step (fun k => by rw [impl_IsPartition.l0]) ?_
      refine ev_pos (by omega) (ev_pos (by omega) (ev_pos (by omega) (ev_bindc (impl_within_eq _ _ _) (ev_ite (fun h => ?_) (fun h => ?_)))))
      · cases i with
        | zero =>
          refine ev_neg (by omega) (hstep false ?_)
          rw [decide_eq_true_eq] at h
          have h' : rd l ((0 : Nat) : Int) ≤ before l 0 := by show _ ≤ (9 : Int); omega
          rw [decide_eq_true h, decide_eq_true h']; rfl
        | succ i =>
          have e : wrap64 (((i + 1 : Nat) : Int) - 1) = (i : Int) := by unfold wrap64; omega
          rw [e]
          refine ev_pos (by omega) (ev_pos (by omega) (ev_pos (by omega) (hstep _ ?_)))
          rw [h, Bool.true_and]
          show decide (rd l ((i + 1 : Nat) : Int) > rd l (i : Int)) = !decide (rd l ((i + 1 : Nat) : Int) ≤ rd l (i : Int))
          by_cases g : rd l ((i + 1 : Nat) : Int) ≤ rd l (i : Int)
          · rw [decide_eq_true g, decide_eq_false (by omega)]; rfl
          · rw [decide_eq_false g, decide_eq_true (by omega)]; rfl
      · refine hstep true ?_
        simp only [Bool.not_eq_true] at h
        rw [h]; rfl
  unfold impl_IsPartition.f isPartition
  have := key 0 (by omega) 0 (by omega) (by omega)
  rw [List.drop_zero] at this
  exact this
end Go.Proofs.Ytdcdndfgdmcomaa.Q

set_option linter.unusedVariables false
set_option linter.unusedSimpArgs false
namespace Go.Proofs.Ytdcdndfgdmcomaa.Q
open Go.RowKit Go.Proofs.Ytdcdndfgdmcomaa.F Go.Proofs.YtdcdndfgdmcomaaW.PrintWords Go.Proofs.YtdcdndfgdmcomaaW.PrintLast Go.Proofs.YtdcdndfgdmcomaaW.PrintMore
theorem isum_ge {l : List Int} (h : ∀ x ∈ l, 1 ≤ x) : 0 ≤ isum l := isum_nonneg (fun x hx => by have := h x hx; omega)
theorem partOk_iff : ∀ (l : List Int) (prev s : Int), s ≤ 9 → (partOk prev s l = true ↔ (∀ x ∈ l, 1 ≤ x ∧ x ≤ 9) ∧ (∀ x ∈ l.head?, x ≤ prev) ∧ l.Pairwise (fun a b => b ≤ a) ∧ s + isum l ≤ 9)
  | [], prev, s, hs => by simp [partOk, isum, hs]
  | x :: l, prev, s, hs => by
    simp only [partOk, Bool.and_eq_true, decide_eq_true_eq]
    constructor
    · rintro ⟨⟨⟨h1, h2⟩, h3⟩, h4⟩
      obtain ⟨g1, g2, g3, g4⟩ := (partOk_iff l x (s + x) h3).1 h4
      refine ⟨fun y hy => ?_, by simpa using h2, List.Pairwise.cons (fun y hy => ?_) g3, by simp only [isum]; omega⟩
      · rcases List.mem_cons.1 hy with rfl | hy
        · exact h1
        · exact g1 y hy
      · cases l with
        | nil => simp at hy
        | cons z l =>
          have hz : z ≤ x := g2 z (by simp)
          rcases List.mem_cons.1 hy with rfl | hy
          · exact hz
          · have := (List.pairwise_cons.1 g3).1 y hy; omega
    · rintro ⟨h1, h2, h3, h4⟩
      have hx := h1 x (by simp)
      have hl : ∀ y ∈ l, 1 ≤ y ∧ y ≤ 9 := fun y hy => h1 y (by simp [hy])
      have h0 := isum_ge (fun y hy => (hl y hy).1)
      simp only [isum] at h4
      refine ⟨⟨⟨hx, h2 x (by simp)⟩, by omega⟩, (partOk_iff l x (s + x) (by omega)).2 ⟨hl, fun y hy => ?_, (List.pairwise_cons.1 h3).2, by omega⟩⟩
      exact (List.pairwise_cons.1 h3).1 y (List.mem_of_mem_head? hy)
theorem isum_mem_le {l : List Int} (h : ∀ x ∈ l, 1 ≤ x) : ∀ x ∈ l, x ≤ isum l := by
  induction l with
  | nil => simp
  | cons y l ih =>
    intro x hx
    have h0 := isum_ge (fun z hz => h z (List.mem_cons_of_mem _ hz))
    have hy := h y (by simp)
    simp only [isum]
    rcases List.mem_cons.1 hx with rfl | hx
    · omega
    · have := ih (fun z hz => h z (List.mem_cons_of_mem _ hz)) x hx; omega
theorem isPartition_iff {l : List Int} : isPartition l = true ↔ (∀ x ∈ l, 1 ≤ x) ∧ l.Pairwise (fun a b => b ≤ a) ∧ isum l ≤ 9 := by
  unfold isPartition
  rw [partOk_iff l 9 0 (by omega)]
  constructor
  · rintro ⟨h1, _, h3, h4⟩
    exact ⟨fun x hx => (h1 x hx).1, h3, by omega⟩
  · rintro ⟨h1, h2, h3⟩
    have h9 : ∀ x ∈ l, 1 ≤ x ∧ x ≤ 9 := fun x hx => ⟨h1 x hx, by have := isum_mem_le h1 x hx; omega⟩
    exact ⟨h9, fun x hx => (h9 x (List.mem_of_mem_head? hx)).2, h2, by omega⟩
/-- the numbers of a partition fall, and noughts follow -/
theorem isPartition_anti {p : List Int} (h : isPartition p = true) {i j : Nat} (hij : i ≤ j) : at0 p (j : Int) ≤ at0 p (i : Int) := by
  obtain ⟨h1, h2, _⟩ := isPartition_iff.1 h
  by_cases hj : j < p.length
  · rw [at0_nat p j hj, at0_nat p i (by omega), rd_eq p j hj, rd_eq p i (by omega)]
    rcases Nat.lt_or_ge i j with hlt | hge
    · exact List.pairwise_iff_getElem.1 h2 i j (by omega) hj hlt
    · have : i = j := by omega
      subst this; exact Int.le_refl _
  · rw [at0_out p j (by omega)]
    by_cases hi : i < p.length
    · rw [at0_nat p i hi]
      have := h1 _ (rd_mem p i hi); omega
    · rw [at0_out p i (by omega)]; exact Int.le_refl _
theorem isPartition_desc {p : List Int} (h : isPartition p = true) (i : Nat) (hi : i < p.length) : at0 p ((i : Int) + 1) ≤ rd p (i : Int) := by
  have := isPartition_anti h (i := i) (j := i + 1) (by omega)
  rw [at0_nat p i hi] at this
  rw [Int.natCast_add, Int.natCast_one] at this
  exact this
end Go.Proofs.Ytdcdndfgdmcomaa.Q

set_option linter.unusedVariables false
set_option linter.unusedSimpArgs false
namespace Go.Proofs.Ytdcdndfgdmcomaa.Q
open Go.RowKit Go.Proofs.Ytdcdndfgdmcomaa.F Go.Proofs.YtdcdndfgdmcomaaW.PrintWords Go.Proofs.YtdcdndfgdmcomaaW.PrintLast Go.Proofs.YtdcdndfgdmcomaaW.PrintMore
/-- the rows that end in a corner -/
def cornersTo (p : List Int) : Nat → List Int
  | 0 => []
  | i + 1 => cornersTo p i ++ if at0 p ((i : Int) + 1) < rd p (i : Int) then [(i : Int)] else []
def cornersOf (p : List Int) : List Int := if isPartition p = true then cornersTo p p.length else []
def isCorner (p : List Int) (a : Int) : Bool := isPartition p && decide (0 ≤ a ∧ a < (p.length : Int) ∧ at0 p (a + 1) < rd p a)
theorem cornersTo_mem (p : List Int) (a : Int) : ∀ i, a ∈ cornersTo p i ↔ 0 ≤ a ∧ a < (i : Int) ∧ at0 p (a + 1) < rd p a
  | 0 => by simp [cornersTo]; omega
  | i + 1 => by
    simp only [cornersTo, List.mem_append, cornersTo_mem p a i]
    constructor
    · rintro (h | h)
      · exact ⟨h.1, by omega, h.2.2⟩
      · split at h
        · rename_i hc
          obtain rfl := List.mem_singleton.1 h
          exact ⟨by omega, by omega, hc⟩
        · simp at h
    · rintro ⟨h0, h1, h2⟩
      by_cases e : a = (i : Int)
      · subst e; rw [if_pos h2]; exact .inr (by simp)
      · exact .inl ⟨h0, by omega, h2⟩
theorem cornersOf_mem (p : List Int) (a : Int) : decide (a ∈ cornersOf p) = isCorner p a := by
  unfold cornersOf isCorner
  cases h : isPartition p with
  | false => simp
  | true => rw [if_pos rfl, Bool.true_and, decide_eq_decide, cornersTo_mem]
theorem cornersTo_le (p : List Int) : ∀ i, (cornersTo p i).length ≤ i
  | 0 => Nat.le_refl _
  | i + 1 => by
    have := cornersTo_le p i
    simp only [cornersTo, List.length_append]
    split <;> simp <;> omega
theorem cornersOf_le (p : List Int) : (cornersOf p).length ≤ 9 := by
  unfold cornersOf
  split
  · rename_i h
    have := cornersTo_le p p.length
    have := (isPartition_bd h).2.1
    omega
  · simp
/-- the numbers behind the taking of a cell: no noughts at the end -/
def boxOff (p : List Int) (a : Int) : List Int := if rd p a = 1 then p.take a.toNat else p.set a.toNat (rd p a - 1)
def removeBox (p : List Int) (a : Int) : List Int × Bool := if isCorner p a = true then (boxOff p a, true) else ([], false)
theorem isCorner_iff {p : List Int} {a : Int} : isCorner p a = true ↔ isPartition p = true ∧ 0 ≤ a ∧ a < (p.length : Int) ∧ at0 p (a + 1) < rd p a := by
  unfold isCorner
  rw [Bool.and_eq_true, decide_eq_true_eq]
/-- how many numbers there are up to the last one that is no nought -/
def trimLen (l : List Int) : Nat → Nat
  | 0 => 0
  | k + 1 => if rd l (k : Int) = 0 then trimLen l k else k + 1
def trimZ (l : List Int) : List Int := l.take (trimLen l l.length)
theorem trimLen_le (l : List Int) : ∀ k, trimLen l k ≤ k
  | 0 => Nat.le_refl _
  | k + 1 => by
    have := trimLen_le l k
    simp only [trimLen]
    split <;> omega
/-- behind a corner only noughts follow, once its last cell is gone -/
theorem trimZ_boxOff {p : List Int} {a : Int} (h : isCorner p a = true) : trimZ (p.set a.toNat (rd p a - 1)) = boxOff p a := by
  obtain ⟨hp, h0, h1, h2⟩ := isCorner_iff.1 h
  obtain ⟨i, rfl⟩ : ∃ i : Nat, a = (i : Int) := ⟨a.toNat, by omega⟩
  have hb := (isPartition_bd hp).2.2
  have hi : i < p.length := by omega
  rw [Int.toNat_natCast]
  unfold trimZ boxOff
  rw [List.length_set, Int.toNat_natCast]
  have hrd : ∀ j : Nat, rd (p.set i (rd p (i : Int) - 1)) (j : Int) = if i = j then rd p (i : Int) - 1 else rd p (j : Int) := fun j => rd_set p i j _ hi
  by_cases e1 : rd p (i : Int) = 1
  · rw [if_pos e1]
    have hl : p.length = i + 1 := by
      by_cases hlt : i + 1 < p.length
      · have h3 := at0_nat p (i + 1) hlt
        rw [Int.natCast_add] at h3
        have := hb _ (rd_mem p (i + 1) hlt)
        rw [Int.natCast_add] at this
        rw [Int.natCast_one] at h3 this
        omega
      · omega
    rw [hl]
    simp only [trimLen]
    rw [hrd i, if_pos rfl, if_pos (by omega)]
    have hk : ∀ k, k ≤ i → trimLen (p.set i (rd p (i : Int) - 1)) k = k := by
      intro k hk
      cases k with
      | zero => rfl
      | succ k =>
        simp only [trimLen]
        rw [hrd k, if_neg (show ¬ i = k by omega)]
        have := hb _ (rd_mem p k (by omega))
        rw [if_neg (by omega)]
    rw [hk i (Nat.le_refl _), List.take_set_of_le (Nat.le_refl _)]
  · rw [if_neg e1]
    have hk : trimLen (p.set i (rd p (i : Int) - 1)) p.length = p.length := by
      obtain ⟨k, hk⟩ : ∃ k, p.length = k + 1 := ⟨p.length - 1, by omega⟩
      rw [hk]
      simp only [trimLen]
      rw [hrd k]
      split
      · rename_i e
        subst e
        have := hb _ (rd_mem p i hi)
        rw [if_neg (by omega)]
      · have := hb _ (rd_mem p k (by omega))
        rw [if_neg (by omega)]
    rw [hk, List.take_of_length_le (by simp)]
theorem boxOff_at {p : List Int} {a : Nat} (h : isCorner p (a : Int) = true) (j : Nat) : at0 (boxOff p (a : Int)) (j : Int) = at0 p (j : Int) - if j = a then 1 else 0 := by
  obtain ⟨hp, h0, h1, h2⟩ := isCorner_iff.1 h
  have hb := (isPartition_bd hp).2.2
  have hi : a < p.length := by omega
  unfold boxOff
  rw [Int.toNat_natCast]
  by_cases e1 : rd p (a : Int) = 1
  · rw [if_pos e1]
    have hl : p.length = a + 1 := by
      by_cases hlt : a + 1 < p.length
      · have h3 := at0_nat p (a + 1) hlt
        rw [Int.natCast_add] at h3
        have := hb _ (rd_mem p (a + 1) hlt)
        rw [Int.natCast_add] at this
        rw [Int.natCast_one] at h3 this
        omega
      · omega
    by_cases hj : j < a
    · rw [at0_nat _ j (by rw [List.length_take]; omega), at0_nat _ j (by omega), rd_nat, rd_nat, List.getD_eq_getElem?_getD, List.getD_eq_getElem?_getD, List.getElem?_take, if_pos hj, if_neg (by omega)]; omega
    · rw [at0_out _ j (by rw [List.length_take]; omega)]
      by_cases e : j = a
      · subst e; rw [at0_nat _ j hi, if_pos rfl]; omega
      · rw [at0_out _ j (by omega), if_neg e]; rfl
  · rw [if_neg e1]
    by_cases hj : j < p.length
    · rw [at0_nat _ j (by rw [List.length_set]; exact hj), at0_nat _ j hj, rd_set p a j _ hi]
      by_cases e : a = j
      · subst e; rw [if_pos rfl, if_pos rfl]
      · rw [if_neg e, if_neg (fun h => e h.symm)]; omega
    · rw [at0_out _ j (by rw [List.length_set]; omega), at0_out _ j (by omega), if_neg (by omega)]; rfl
theorem isum_set : ∀ (l : List Int) (i : Nat) (x : Int), i < l.length → isum (l.set i x) = isum l - rd l (i : Int) + x
  | [], i, x, h => by simp at h
  | y :: l, 0, x, _ => by
    have : rd (y :: l) ((0 : Nat) : Int) = y := rfl
    simp only [List.set_cons_zero, isum, this]; omega
  | y :: l, i + 1, x, h => by
    have h1 := isum_set l i x (by simpa using h)
    have h2 : rd (y :: l) ((i + 1 : Nat) : Int) = rd l (i : Int) := by rw [rd_nat, rd_nat]; rfl
    simp only [List.set_cons_succ, isum, h2, h1]; omega
theorem boxOff_part {p : List Int} {a : Int} (h : isCorner p a = true) : isPartition (boxOff p a) = true := by
  obtain ⟨hp, h0, h1, h2⟩ := isCorner_iff.1 h
  obtain ⟨i, rfl⟩ : ∃ i : Nat, a = (i : Int) := ⟨a.toNat, by omega⟩
  obtain ⟨g1, g2, g3⟩ := isPartition_iff.1 hp
  have hi : i < p.length := by omega
  have hx := g1 _ (rd_mem p i hi)
  unfold boxOff
  rw [Int.toNat_natCast]
  split
  · have e : isum p = isum (p.take i) + isum (p.drop i) := by rw [← isum_append, List.take_append_drop]
    have hd := isum_ge (l := p.drop i) (fun x hx => g1 x (List.mem_of_mem_drop hx))
    exact isPartition_iff.2 ⟨fun x hx => g1 x (List.mem_of_mem_take hx), g2.sublist (List.take_sublist i p), by omega⟩
  · have hs := isum_set p i (rd p (i : Int) - 1) hi
    refine isPartition_iff.2 ⟨fun x hx => ?_, ?_, by omega⟩
    · rcases List.mem_or_eq_of_mem_set hx with hx | rfl
      · exact g1 x hx
      · omega
    · rw [List.pairwise_iff_getElem]
      intro x y hx hy hxy
      rw [List.length_set] at hx hy
      have h3 := List.pairwise_iff_getElem.1 g2 x y hx hy hxy
      rw [List.getElem_set, List.getElem_set]
      split
      · rename_i e
        rw [if_neg (by omega)]
        have h4 : p[i] = rd p (i : Int) := (rd_eq p i hi).symm
        subst e
        omega
      · split
        · rename_i e
          subst e
          have h5 := isPartition_anti hp (i := i + 1) (j := y) (by omega)
          rw [at0_nat p y hy, rd_eq p y hy, Int.natCast_add, Int.natCast_one] at h5
          omega
        · exact h3
theorem boxOff_le (p : List Int) (a : Int) : (boxOff p a).length ≤ p.length := by
  unfold boxOff
  split
  · rw [List.length_take]; omega
  · rw [List.length_set]; omega
end Go.Proofs.Ytdcdndfgdmcomaa.Q

set_option linter.unusedVariables false
set_option linter.unusedSimpArgs false
namespace Go.Proofs.Ytdcdndfgdmcomaa.Q
open Go.RowKit Go.Proofs.Ytdcdndfgdmcomaa.F Go.Proofs.YtdcdndfgdmcomaaW.PrintWords Go.Proofs.YtdcdndfgdmcomaaW.PrintLast Go.Proofs.YtdcdndfgdmcomaaW.PrintMore
def isInside (q p : List Int) : Bool := isPartition q && isPartition p && (List.range q.length).all (fun i => decide (rd q (i : Int) ≤ at0 p (i : Int)))
theorem inside_all (q p : List Int) (i : Nat) : ((List.range q.length).all (fun i => decide (rd q (i : Int) ≤ at0 p (i : Int))) = true) ↔ ∀ j, j < q.length → rd q (j : Int) ≤ at0 p (j : Int) := by
  rw [List.all_eq_true]
  constructor
  · intro h j hj; have := h j (List.mem_range.2 hj); simpa using this
  · intro h j hj; simpa using h j (List.mem_range.1 hj)
theorem isInside_len {q p : List Int} (h : isInside q p = true) : isPartition q = true ∧ isPartition p = true ∧ q.length ≤ p.length ∧ ∀ j, j < q.length → rd q (j : Int) ≤ rd p (j : Int) := by
  unfold isInside at h
  simp only [Bool.and_eq_true] at h
  obtain ⟨⟨h1, h2⟩, h3⟩ := h
  rw [inside_all q p 0] at h3
  have hb := (isPartition_bd h1).2.2
  have hlen : q.length ≤ p.length := by
    apply Classical.byContradiction
    intro hn
    have := h3 p.length (by omega)
    rw [at0_out _ _ (.inr (by omega))] at this
    have := (hb _ (rd_mem q p.length (by omega))).1
    omega
  refine ⟨h1, h2, hlen, fun j hj => ?_⟩
  have := h3 j hj
  rwa [at0_nat p j (by omega)] at this
theorem impl_IsInside_ev (q p : List Int) (hq : q.length ≤ 1048576) (hp : p.length ≤ 1048576) : Ev (fun k => impl_IsInside.f k q p) (isInside q p) := by
  unfold impl_IsInside.f isInside
  refine Ev.bind (impl_IsPartition_ev q hq) (ev_ite (fun h1 => ?_) (fun h1 => ?_))
  · refine Ev.bind (impl_IsPartition_ev p hp) (Ev.step (fun k => by rw [impl_IsInside.j0]) ?_)
    rw [h1, Bool.true_and]
    by_cases h2 : isPartition p = true
    · rw [h2, Bool.true_and]
      refine ev_neg (by simp) ?_
      have key : ∀ i, i ≤ q.length → ∃ b, Ev (fun k => impl_IsInside.l0 k p q (q.length : Int) (i : Int)) b ∧ (b = true ↔ ∀ j, i ≤ j → j < q.length → rd q (j : Int) ≤ at0 p (j : Int)) := by
        refine downTo q.length ?_ ?_
        · refine ⟨true, ?_, by simp; intro j a b; omega⟩
          refine Ev.step (fun k => by rw [impl_IsInside.l0]) ?_
          exact ev_neg (by omega) (ev_val rfl)
        · rintro i hi ⟨b, hb, hiff⟩
          by_cases hc : rd q (i : Int) > at0 p (i : Int)
          · refine ⟨false, ?_, ?_⟩
            · refine Ev.step (fun k => by rw [impl_IsInside.l0]) ?_
              exact ev_pos (by omega) (ev_pos (by omega) (ev_pos (by omega) (ev_bindc (impl_at_eq p _ hp) (ev_pos hc (ev_val rfl)))))
            · constructor
              · intro h; cases h
              · intro h; have := h i (Nat.le_refl _) hi; omega
          · refine ⟨b, ?_, ?_⟩
            · refine Ev.step (fun k => by rw [impl_IsInside.l0]) ?_
              refine ev_pos (by omega) (ev_pos (by omega) (ev_pos (by omega) (ev_bindc (impl_at_eq p _ hp) (ev_neg hc ?_))))
              rw [wrap_succ (by omega)]; exact hb
            · rw [hiff]
              constructor
              · intro h j a c
                by_cases e : j = i
                · subst e; omega
                · exact h j (by omega) c
              · intro h j a c; exact h j (by omega) c
      obtain ⟨b, hb, hiff⟩ := key 0 (by omega)
      refine ev_eq hb ?_
      rw [Bool.eq_iff_iff, hiff, inside_all q p 0]
      exact ⟨fun h j hj => h j (by omega) hj, fun h j _ hj => h j hj⟩
    · simp only [Bool.not_eq_true] at h2
      rw [h2]
      exact ev_pos rfl (ev_val rfl)
  · simp only [Bool.not_eq_true] at h1
    rw [h1]
    refine Ev.step (fun k => by rw [impl_IsInside.j0]) ?_; exact ev_pos rfl (ev_val rfl)
theorem spec_IsInside_ev (q p : List Int) (hq : q.length ≤ 1048576) (hp : p.length ≤ 1048576) : Ev (fun k => spec_IsInside.f k q p) (isInside q p) := by
  unfold spec_IsInside.f isInside
  refine Ev.bind (spec_IsPartition_ev q hq) (ev_ite (fun h1 => ?_) (fun h1 => ?_))
  · refine Ev.bind (spec_IsPartition_ev p hp) (ev_ite (fun h2 => ?_) (fun h2 => ?_))
    · rw [h1, h2, Bool.true_and, Bool.true_and]
      refine Ev.step (fun k => by rw [spec_IsInside.j0]) ?_
      have hb := (isPartition_bd h1).2.2
      by_cases hl : (q.length : Int) > (p.length : Int)
      · refine ev_pos (decide_eq_true hl) (ev_val ?_)
        symm
        rw [Bool.eq_false_iff]
        intro h
        rw [inside_all q p 0] at h
        have := h p.length (by omega)
        rw [at0_out _ _ (.inr (by omega))] at this
        have := (hb _ (rd_mem q p.length (by omega))).1
        omega
      · refine ev_neg (by simpa using hl) ?_
        have key : ∀ i, i ≤ q.length → ∃ b, Ev (fun k => spec_IsInside.l0 k q p (i : Int)) b ∧ (b = true ↔ ∀ j, i ≤ j → j < q.length → rd q (j : Int) ≤ at0 p (j : Int)) := by
          refine downTo q.length ?_ ?_
          · refine ⟨true, ?_, by simp; intro j a b; omega⟩
            refine Ev.step (fun k => by rw [spec_IsInside.l0]) ?_
            exact ev_neg (by omega) (ev_val rfl)
          · rintro i hi ⟨b, hb, hiff⟩
            have ea := at0_nat p i (by omega)
            by_cases hc : rd q (i : Int) > rd p (i : Int)
            · refine ⟨false, ?_, ?_⟩
              · refine Ev.step (fun k => by rw [spec_IsInside.l0]) ?_
                exact ev_pos (by omega) (ev_pos (by omega) (ev_pos (by omega) (ev_pos hc (ev_val rfl))))
              · constructor
                · intro h; cases h
                · intro h; have := h i (Nat.le_refl _) hi; omega
            · refine ⟨b, ?_, ?_⟩
              · refine Ev.step (fun k => by rw [spec_IsInside.l0]) ?_
                refine ev_pos (by omega) (ev_pos (by omega) (ev_pos (by omega) (ev_neg hc ?_)))
                rw [wrap_succ (by omega)]; exact hb
              · rw [hiff]
                constructor
                · intro h j a c
                  by_cases e : j = i
                  · subst e; omega
                  · exact h j (by omega) c
                · intro h j a c; exact h j (by omega) c
        obtain ⟨b, hb, hiff⟩ := key 0 (by omega)
        refine ev_eq hb ?_
        rw [Bool.eq_iff_iff, hiff, inside_all q p 0]
        exact ⟨fun h j hj => h j (by omega) hj, fun h j _ hj => h j hj⟩
    · simp only [Bool.not_eq_true] at h2
      rw [h1, h2]
      refine Ev.step (fun k => by rw [spec_IsInside.j0]) ?_; exact ev_pos rfl (ev_val rfl)
  · simp only [Bool.not_eq_true] at h1
    rw [h1]
    refine Ev.step (fun k => by rw [spec_IsInside.j0]) ?_; exact ev_pos rfl (ev_val rfl)
theorem impl_IsShape_ev (o n : List Int) (ho : o.length ≤ 1048576) (hn : n.length ≤ 1048576) : Ev (fun k => impl_IsShape.f k o n) (isInside n o) := by
  unfold impl_IsShape.f
  exact Ev.bind (impl_IsInside_ev n o hn ho) (ev_val rfl)
end Go.Proofs.Ytdcdndfgdmcomaa.Q

set_option linter.unusedVariables false
set_option linter.unusedSimpArgs false
namespace Go.Proofs.Ytdcdndfgdmcomaa.Q
open Go.RowKit Go.Proofs.Ytdcdndfgdmcomaa.F Go.Proofs.YtdcdndfgdmcomaaW.PrintWords Go.Proofs.YtdcdndfgdmcomaaW.PrintLast Go.Proofs.YtdcdndfgdmcomaaW.PrintMore
/-- how far row i reaches -/
def reachOf (n : List Int) (m : List (List Int)) (i : Nat) : Int := at0 n (i : Int) + ((rd_L1 m (i : Int)).length : Int)
/-- the outer partition: how long each row reaches -/
def outerOf (n : List Int) (m : List (List Int)) : List Int := (List.range m.length).map (reachOf n m)
def hasShape (n : List Int) (m : List (List Int)) : Bool := isPartition n && decide (n.length ≤ m.length) && isInside n (outerOf n m)
def shapeOf (n : List Int) (m : List (List Int)) : List Int × List Int × Bool := if hasShape n m then (outerOf n m, n, true) else ([], [], false)
theorem outerOf_length (n : List Int) (m : List (List Int)) : (outerOf n m).length = m.length := by simp [outerOf]
theorem outerOf_rd (n : List Int) (m : List (List Int)) (i : Nat) (h : i < m.length) : rd (outerOf n m) (i : Int) = at0 n (i : Int) + ((rd_L1 m (i : Int)).length : Int) := by
  rw [rd_eq _ i (by rw [outerOf_length]; exact h)]
  simp [outerOf, reachOf]
theorem at0_bd {n : List Int} (h : isPartition n = true) (i : Int) : 0 ≤ at0 n i ∧ at0 n i ≤ 9 := by
  have hb := (isPartition_bd h).2.2
  unfold at0
  split
  · rename_i hi
    obtain ⟨j, rfl⟩ : ∃ j : Nat, i = (j : Int) := ⟨i.toNat, by omega⟩
    have := hb _ (rd_mem n j (by omega))
    omega
  · omega
/-- what has a shape is small -/
theorem hasShape_bd {n : List Int} {m : List (List Int)} (h : hasShape n m = true) : isPartition n = true ∧ n.length ≤ m.length ∧ m.length ≤ 9 ∧ isPartition (outerOf n m) = true ∧ (∀ i, i < m.length → 1 ≤ at0 n (i : Int) + ((rd_L1 m (i : Int)).length : Int) ∧ at0 n (i : Int) + ((rd_L1 m (i : Int)).length : Int) ≤ 9) := by
  unfold hasShape at h
  simp only [Bool.and_eq_true, decide_eq_true_eq] at h
  obtain ⟨⟨h1, h2⟩, h3⟩ := h
  obtain ⟨_, h4, _, _⟩ := isInside_len h3
  obtain ⟨_, g2, g3⟩ := isPartition_bd h4
  rw [outerOf_length] at g2
  refine ⟨h1, h2, g2, h4, fun i hi => ?_⟩
  have := g3 _ (rd_mem (outerOf n m) i (by rw [outerOf_length]; exact hi))
  rw [outerOf_rd n m i hi] at this
  exact this
theorem range_snoc' (n : List Int) (m : List (List Int)) (i : Nat) : (List.range (i + 1)).map (reachOf n m) = (List.range i).map (reachOf n m) ++ [reachOf n m i] := by simp [List.range_succ]
theorem impl_ShapeOf_ev (n : List Int) (m : List (List Int)) (hn : n.length ≤ 1048576) (hm : m.length ≤ 1048576) (hr : ∀ r ∈ m, r.length ≤ 1048576) : Ev (fun k => impl_ShapeOf.f k n m) (shapeOf n m) := by
  unfold impl_ShapeOf.f
  refine Ev.bind (impl_IsPartition_ev n hn) (ev_ite (fun h1 => ?_) (fun h1 => ?_))
  · refine Ev.step (fun k => by rw [impl_ShapeOf.j0]) ?_
    by_cases h2 : n.length ≤ m.length
    · refine ev_neg (by simpa using h2) (ev_bindc (b := n) (by unfold slices_Clone_int_int.f; rw [if_pos (by omega)]) ?_)
      have key : ∀ i, i ≤ m.length → Ev (fun k => impl_ShapeOf.l0 k m (m.length : Int) (i : Int) n m ((List.range i).map (reachOf n m)) n) (shapeOf n m) := by
        refine downTo m.length ?_ ?_
        · refine Ev.step (fun k => by rw [impl_ShapeOf.l0]) ?_
          refine ev_neg (by omega) (Ev.bind (impl_IsShape_ev (outerOf n m) n (by rw [outerOf_length]; omega) hn) (ev_ite (fun h3 => ?_) (fun h3 => ?_)))
          · refine ev_val ?_
            unfold shapeOf hasShape
            rw [h1, h3, decide_eq_true h2]; rfl
          · simp only [Bool.not_eq_true] at h3
            refine ev_val ?_
            unfold shapeOf hasShape
            rw [h3, Bool.and_false]; rfl
        · intro i hi ih
          have hb := at0_bd h1 (i : Int)
          have hl := hr _ (rows_mem m i hi)
          refine Ev.step (fun k => by rw [impl_ShapeOf.l0]) ?_
          refine ev_pos (by omega) (ev_pos (by omega) (ev_pos (by omega) (ev_bindc (impl_at_eq n _ hn) (ev_pos (by simp; omega) ?_))))
          rw [wrap_succ (by omega), wrap_id (by omega) (by omega)]
          rw [range_snoc', reachOf] at ih
          exact ih
      exact key 0 (by omega)
    · refine ev_pos (by simpa using h2) (ev_val ?_)
      unfold shapeOf hasShape
      rw [decide_eq_false h2, Bool.and_false]; rfl
  · simp only [Bool.not_eq_true] at h1
    refine Ev.step (fun k => by rw [impl_ShapeOf.j0]) ?_
    refine ev_pos rfl (ev_val ?_)
    unfold shapeOf hasShape
    rw [h1]; rfl
end Go.Proofs.Ytdcdndfgdmcomaa.Q

set_option linter.unusedVariables false
set_option linter.unusedSimpArgs false
namespace Go.Proofs.Ytdcdndfgdmcomaa.Q
open Go.RowKit Go.Proofs.Ytdcdndfgdmcomaa.F Go.Proofs.YtdcdndfgdmcomaaW.PrintWords Go.Proofs.YtdcdndfgdmcomaaW.PrintLast Go.Proofs.YtdcdndfgdmcomaaW.PrintMore
def entryOf (n : List Int) (m : List (List Int)) (r c : Int) : Int := if 0 ≤ r ∧ r < (m.length : Int) then at0 (rd_L1 m r) (c - at0 n r) else 0
theorem impl_entry_eq (n : List Int) (m : List (List Int)) (r c : Int) (h1 : isPartition n = true) (hm : m.length ≤ 1048576) (hr : ∀ q ∈ m, q.length ≤ 1048576) (hc : -1000 ≤ c) (hc2 : c ≤ 2097152) : impl_Tableau_entry.f n m r c = some (entryOf n m r c) := by
  have hn := (isPartition_bd h1).2.1
  have hb := at0_bd h1 r
  unfold impl_Tableau_entry.f entryOf
  rw [wrap_id (by omega) (by omega), impl_within_eq]
  simp only [Option.bind_some]
  by_cases h : 0 ≤ r ∧ r < (m.length : Int)
  · obtain ⟨j, rfl⟩ : ∃ j : Nat, r = (j : Int) := ⟨r.toNat, by omega⟩
    rw [if_pos h, if_pos (by rw [decide_eq_true_eq]; omega), if_pos h.1, if_pos h.2, impl_at_eq n _ (by omega)]
    simp only [Option.bind_some]
    rw [wrap_id (by omega) (by omega), impl_at_eq _ _ (hr _ (rows_mem m j (by omega)))]
    rfl
  · rw [if_neg h, if_neg (by rw [decide_eq_true_eq]; omega)]
/-- the number at index k of row i fits its neighbours -/
def CellOk (n : List Int) (m : List (List Int)) (i k : Nat) : Prop :=
  (1 ≤ rd (rd_L1 m (i : Int)) (k : Int) ∧ rd (rd_L1 m (i : Int)) (k : Int) ≤ 9) ∧ (0 < k → rd (rd_L1 m (i : Int)) ((k - 1 : Nat) : Int) ≤ rd (rd_L1 m (i : Int)) (k : Int)) ∧ (0 < i → entryOf n m ((i - 1 : Nat) : Int) (at0 n (i : Int) + k) < rd (rd_L1 m (i : Int)) (k : Int))
instance (n : List Int) (m : List (List Int)) (i k : Nat) : Decidable (CellOk n m i k) := by unfold CellOk; infer_instance
def isTab (n : List Int) (m : List (List Int)) : Bool := hasShape n m && (List.range m.length).all (fun i => (List.range (rd_L1 m (i : Int)).length).all (fun k => decide (CellOk n m i k)))
theorem isTab_iff {n : List Int} {m : List (List Int)} : isTab n m = true ↔ hasShape n m = true ∧ ∀ i, i < m.length → ∀ k, k < (rd_L1 m (i : Int)).length → CellOk n m i k := by
  unfold isTab
  rw [Bool.and_eq_true, List.all_eq_true]
  constructor
  · rintro ⟨h1, h2⟩
    refine ⟨h1, fun i hi k hk => ?_⟩
    have := h2 i (List.mem_range.2 hi)
    rw [List.all_eq_true] at this
    simpa using this k (List.mem_range.2 hk)
  · rintro ⟨h1, h2⟩
    refine ⟨h1, fun i hi => ?_⟩
    rw [List.all_eq_true]
    intro k hk
    simpa using h2 i (List.mem_range.1 hi) k (List.mem_range.1 hk)
theorem impl_IsTableau_l1 (n : List Int) (m : List (List Int)) (hs : hasShape n m = true) (hr : ∀ q ∈ m, q.length ≤ 1048576) (i : Nat) (hi : i < m.length) (b : Bool)
    (hnext : Ev (fun k => impl_IsTableau.l0 k m (m.length : Int) ((i + 1 : Nat) : Int) n m) b) :
    ∀ j, j ≤ (rd_L1 m (i : Int)).length → ∃ b', Ev (fun k => impl_IsTableau.l1 k (i : Int) (rd_L1 m (i : Int)) m (m.length : Int) (i : Int) (rd_L1 m (i : Int)) ((rd_L1 m (i : Int)).length : Int) (j : Int) n m) b' ∧ (b' = true ↔ (∀ k, j ≤ k → k < (rd_L1 m (i : Int)).length → CellOk n m i k) ∧ b = true) := by
  obtain ⟨h1, h2, h3, _, h5⟩ := hasShape_bd hs
  have hlen := hr _ (rows_mem m i hi)
  have hrow := h5 i hi
  have hb := at0_bd h1 (i : Int)
  refine downTo _ ?_ ?_
  · refine ⟨b, ?_, ?_⟩
    · refine Ev.step (fun k => by rw [impl_IsTableau.l1]) ?_
      refine ev_neg (by omega) ?_
      rw [wrap_succ (by omega)]; exact hnext
    · constructor
      · intro h; exact ⟨fun k a c => by omega, h⟩
      · intro h; exact h.2
  · rintro j hj ⟨b', hb', hiff⟩
    have hcell : (∀ k, j ≤ k → k < (rd_L1 m (i : Int)).length → CellOk n m i k) ↔ CellOk n m i j ∧ ∀ k, j + 1 ≤ k → k < (rd_L1 m (i : Int)).length → CellOk n m i k := by
      constructor
      · intro h; exact ⟨h j (Nat.le_refl _) hj, fun k a c => h k (by omega) c⟩
      · rintro ⟨h, h'⟩ k a c
        by_cases e : k = j
        · subst e; exact h
        · exact h' k (by omega) c
    have hup : wrap64 ((i : Int) - 1) = (i : Int) - 1 := wrap_id (by omega) (by omega)
    have hcol : wrap64 (at0 n (i : Int) + (j : Int)) = at0 n (i : Int) + j := wrap_id (by omega) (by omega)
    have tail : Ev (fun k => impl_IsTableau.l1 k (i : Int) (rd_L1 m (i : Int)) m (m.length : Int) (i : Int) (rd_L1 m (i : Int)) ((rd_L1 m (i : Int)).length : Int) (wrap64 ((j : Int) + 1)) n m) b' := by
      rw [wrap_succ (by omega)]; exact hb'
    by_cases c1 : 1 ≤ rd (rd_L1 m (i : Int)) (j : Int) ∧ rd (rd_L1 m (i : Int)) (j : Int) ≤ 9
    · by_cases c2 : 0 < j → rd (rd_L1 m (i : Int)) ((j - 1 : Nat) : Int) ≤ rd (rd_L1 m (i : Int)) (j : Int)
      · by_cases c3 : 0 < i → entryOf n m ((i - 1 : Nat) : Int) (at0 n (i : Int) + j) < rd (rd_L1 m (i : Int)) (j : Int)
        · refine ⟨b', ?_, ?_⟩
          · refine Ev.step (fun k => by rw [impl_IsTableau.l1]) ?_
            refine ev_pos (by omega) (ev_pos (by omega) (ev_pos (by omega) (ev_bindc (impl_within_eq _ _ _) (ev_pos (decide_eq_true c1) ?_))))
            have up : Ev (fun k => if (i : Int) > 0 then ((impl_at.f n (i : Int)).bind fun t222 => ((impl_Tableau_entry.f n m (wrap64 ((i : Int) - 1)) (wrap64 (t222 + (j : Int)))).bind fun t223 => (if (rd (rd_L1 m (i : Int)) (j : Int)) ≤ t223 then (some false) else (impl_IsTableau.l1 k (i : Int) (rd_L1 m (i : Int)) m (m.length : Int) (i : Int) (rd_L1 m (i : Int)) ((rd_L1 m (i : Int)).length : Int) (wrap64 ((j : Int) + 1)) n m)))) else (impl_IsTableau.l1 k (i : Int) (rd_L1 m (i : Int)) m (m.length : Int) (i : Int) (rd_L1 m (i : Int)) ((rd_L1 m (i : Int)).length : Int) (wrap64 ((j : Int) + 1)) n m)) b' := by
              refine ev_ite (fun hp => ?_) (fun _ => tail)
              refine ev_bindc (impl_at_eq n _ (by omega)) ?_
              rw [hup, hcol]
              refine ev_bindc (impl_entry_eq n m _ _ h1 (by omega) hr (by omega) (by omega)) (ev_neg ?_ tail)
              have := c3 (by omega)
              rw [show ((i - 1 : Nat) : Int) = (i : Int) - 1 by omega] at this
              omega
            by_cases hj0 : (j : Int) > 0
            · have e : wrap64 ((j : Int) - 1) = ((j - 1 : Nat) : Int) := by unfold wrap64; omega
              rw [e]
              have := c2 (by omega)
              exact ev_pos hj0 (ev_pos (by omega) (ev_pos (by omega) (ev_neg (by omega) up)))
            · exact ev_neg hj0 up
          · rw [hiff, hcell]
            constructor
            · rintro ⟨g1, g2⟩; exact ⟨⟨⟨c1, c2, c3⟩, g1⟩, g2⟩
            · rintro ⟨⟨_, g1⟩, g2⟩; exact ⟨g1, g2⟩
        · have hi0 : 0 < i := Classical.byContradiction fun h => c3 (fun h' => absurd h' h)
          have hge : ¬ entryOf n m ((i - 1 : Nat) : Int) (at0 n (i : Int) + j) < rd (rd_L1 m (i : Int)) (j : Int) := fun h => c3 (fun _ => h)
          refine ⟨false, ?_, ?_⟩
          · refine Ev.step (fun k => by rw [impl_IsTableau.l1]) ?_
            refine ev_pos (by omega) (ev_pos (by omega) (ev_pos (by omega) (ev_bindc (impl_within_eq _ _ _) (ev_pos (decide_eq_true c1) ?_))))
            have up : Ev (fun k => if (i : Int) > 0 then ((impl_at.f n (i : Int)).bind fun t222 => ((impl_Tableau_entry.f n m (wrap64 ((i : Int) - 1)) (wrap64 (t222 + (j : Int)))).bind fun t223 => (if (rd (rd_L1 m (i : Int)) (j : Int)) ≤ t223 then (some false) else (impl_IsTableau.l1 k (i : Int) (rd_L1 m (i : Int)) m (m.length : Int) (i : Int) (rd_L1 m (i : Int)) ((rd_L1 m (i : Int)).length : Int) (wrap64 ((j : Int) + 1)) n m)))) else (impl_IsTableau.l1 k (i : Int) (rd_L1 m (i : Int)) m (m.length : Int) (i : Int) (rd_L1 m (i : Int)) ((rd_L1 m (i : Int)).length : Int) (wrap64 ((j : Int) + 1)) n m)) false := by
              refine ev_pos (by omega) (ev_bindc (impl_at_eq n _ (by omega)) ?_)
              rw [hup, hcol]
              refine ev_bindc (impl_entry_eq n m _ _ h1 (by omega) hr (by omega) (by omega)) (ev_pos ?_ (ev_val rfl))
              rw [show ((i - 1 : Nat) : Int) = (i : Int) - 1 by omega] at hge
              omega
            by_cases hj0 : (j : Int) > 0
            · have e : wrap64 ((j : Int) - 1) = ((j - 1 : Nat) : Int) := by unfold wrap64; omega
              rw [e]
              have := c2 (by omega)
              exact ev_pos hj0 (ev_pos (by omega) (ev_pos (by omega) (ev_neg (by omega) up)))
            · exact ev_neg hj0 up
          · rw [hcell]
            constructor
            · intro h; cases h
            · rintro ⟨⟨⟨_, _, g⟩, _⟩, _⟩; exact absurd g c3
      · have hj0 : 0 < j := Classical.byContradiction fun h => c2 (fun h' => absurd h' h)
        have hlt : ¬ rd (rd_L1 m (i : Int)) ((j - 1 : Nat) : Int) ≤ rd (rd_L1 m (i : Int)) (j : Int) := fun h => c2 (fun _ => h)
        refine ⟨false, ?_, ?_⟩
        · refine Ev.step (fun k => by rw [impl_IsTableau.l1]) ?_
          have e : wrap64 ((j : Int) - 1) = ((j - 1 : Nat) : Int) := by unfold wrap64; omega
          rw [e]
          exact ev_pos (by omega) (ev_pos (by omega) (ev_pos (by omega) (ev_bindc (impl_within_eq _ _ _) (ev_pos (decide_eq_true c1) (ev_pos (by omega) (ev_pos (by omega) (ev_pos (by omega) (ev_pos (by omega) (ev_val rfl)))))))))
        · rw [hcell]
          constructor
          · intro h; cases h
          · rintro ⟨⟨⟨_, g, _⟩, _⟩, _⟩; exact absurd g c2
    · refine ⟨false, ?_, ?_⟩
      · refine Ev.step (fun k => by rw [impl_IsTableau.l1]) ?_
        exact ev_pos (by omega) (ev_pos (by omega) (ev_pos (by omega) (ev_bindc (impl_within_eq _ _ _) (ev_neg (by rw [decide_eq_true_eq]; exact c1) (ev_val rfl)))))
      · rw [hcell]
        constructor
        · intro h; cases h
        · rintro ⟨⟨⟨g, _, _⟩, _⟩, _⟩; exact absurd g c1
theorem impl_IsTableau_ev (n : List Int) (m : List (List Int)) (hn : n.length ≤ 1048576) (hm : m.length ≤ 1048576) (hr : ∀ r ∈ m, r.length ≤ 1048576) : Ev (fun k => impl_IsTableau.f k n m) (isTab n m) := by
  unfold impl_IsTableau.f
  refine Ev.bind (impl_ShapeOf_ev n m hn hm hr) ?_
  by_cases hs : hasShape n m = true
  · rw [show shapeOf n m = (outerOf n m, n, true) by unfold shapeOf; rw [if_pos hs]]
    refine ev_pos rfl ?_
    have key : ∀ i, i ≤ m.length → ∃ b, Ev (fun k => impl_IsTableau.l0 k m (m.length : Int) (i : Int) n m) b ∧ (b = true ↔ ∀ i', i ≤ i' → i' < m.length → ∀ k, k < (rd_L1 m (i' : Int)).length → CellOk n m i' k) := by
      refine downTo m.length ?_ ?_
      · refine ⟨true, ?_, by simp; intro i' a b; omega⟩
        refine Ev.step (fun k => by rw [impl_IsTableau.l0]) ?_
        exact ev_neg (by omega) (ev_val rfl)
      · rintro i hi ⟨b, hb, hiff⟩
        obtain ⟨b', hb', hiff'⟩ := impl_IsTableau_l1 n m hs hr i hi b hb 0 (by omega)
        refine ⟨b', ?_, ?_⟩
        · refine Ev.step (fun k => by rw [impl_IsTableau.l0]) ?_
          exact ev_pos (by omega) (ev_pos (by omega) (ev_pos (by omega) hb'))
        · rw [hiff', hiff]
          constructor
          · rintro ⟨g1, g2⟩ i' a c k hk
            by_cases e : i' = i
            · subst e; exact g1 k (by omega) hk
            · exact g2 i' (by omega) c k hk
          · intro g; exact ⟨fun k _ hk => g i (Nat.le_refl _) hi k hk, fun i' a c k hk => g i' (by omega) c k hk⟩
    obtain ⟨b, hb, hiff⟩ := key 0 (by omega)
    refine ev_eq hb ?_
    rw [Bool.eq_iff_iff, hiff, isTab_iff]
    exact ⟨fun g => ⟨hs, fun i hi k hk => g i (by omega) hi k hk⟩, fun g i _ hi k hk => g.2 i hi k hk⟩
  · rw [show shapeOf n m = ([], [], false) by unfold shapeOf; rw [if_neg hs]]
    refine ev_neg (by simp) (ev_val ?_)
    simp only [Bool.not_eq_true] at hs
    unfold isTab; rw [hs]; rfl
theorem entryOf_cell (n : List Int) (m : List (List Int)) (i j : Nat) (hi : i < m.length) (hj : j < (rd_L1 m (i : Int)).length) : entryOf n m (i : Int) (at0 n (i : Int) + j) = rd (rd_L1 m (i : Int)) (j : Int) := by
  unfold entryOf
  rw [if_pos (by omega), show at0 n (i : Int) + (j : Int) - at0 n (i : Int) = (j : Int) by omega, at0_nat _ j hj]
theorem entryOf_left (n : List Int) (m : List (List Int)) (i j : Nat) (hi : i < m.length) (hj : j < (rd_L1 m (i : Int)).length) : entryOf n m (i : Int) (at0 n (i : Int) + j - 1) = if 0 < j then rd (rd_L1 m (i : Int)) ((j - 1 : Nat) : Int) else 0 := by
  unfold entryOf
  rw [if_pos (by omega)]
  by_cases h : 0 < j
  · rw [if_pos h, show at0 n (i : Int) + (j : Int) - 1 - at0 n (i : Int) = ((j - 1 : Nat) : Int) by omega, at0_nat _ (j - 1) (by omega)]
  · rw [if_neg h, at0_out _ _ (.inl (by omega))]
end Go.Proofs.Ytdcdndfgdmcomaa.Q

set_option linter.unusedVariables false
set_option linter.unusedSimpArgs false
namespace Go.Proofs.Ytdcdndfgdmcomaa.Q
open Go.RowKit Go.Proofs.Ytdcdndfgdmcomaa.F Go.Proofs.YtdcdndfgdmcomaaW.PrintWords Go.Proofs.YtdcdndfgdmcomaaW.PrintLast Go.Proofs.YtdcdndfgdmcomaaW.PrintMore
theorem flatten_bulk : ∀ (m : List (List Int)), m.flatten.length = bulk m
  | [] => rfl
  | r :: m => by rw [List.flatten_cons, List.length_append, flatten_bulk m]; rfl
end Go.Proofs.Ytdcdndfgdmcomaa.Q

set_option linter.unusedVariables false
set_option linter.unusedSimpArgs false
namespace Go.Proofs.Ytdcdndfgdmcomaa.Q
open Go.RowKit Go.Proofs.Ytdcdndfgdmcomaa.F Go.Proofs.YtdcdndfgdmcomaaW.PrintWords Go.Proofs.YtdcdndfgdmcomaaW.PrintLast Go.Proofs.YtdcdndfgdmcomaaW.PrintMore
theorem bulk_le9 {m : List (List Int)} : ∀ (_ : ∀ r ∈ m, r.length ≤ 9), bulk m ≤ 9 * m.length := by
  induction m with
  | nil => intro _; simp [bulk]
  | cons r m ih =>
    intro h
    have h1 := h r (by simp)
    have h2 := ih (fun s hs => h s (by simp [hs]))
    simp only [bulk, List.length_cons]
    omega
end Go.Proofs.Ytdcdndfgdmcomaa.Q

set_option linter.unusedVariables false
set_option linter.unusedSimpArgs false
namespace Go.Proofs.Ytdcdndfgdmcomaa.Q
open Go.RowKit Go.Proofs.Ytdcdndfgdmcomaa.F Go.Proofs.YtdcdndfgdmcomaaW.PrintWords Go.Proofs.YtdcdndfgdmcomaaW.PrintLast Go.Proofs.YtdcdndfgdmcomaaW.PrintMore
theorem isTab_cells {n : List Int} {m : List (List Int)} (h : isTab n m = true) : m.length ≤ 9 ∧ (∀ r ∈ m, r.length ≤ 9) ∧ ∀ x ∈ m.flatten, 1 ≤ x ∧ x ≤ 9 := by
  obtain ⟨hs, hc⟩ := isTab_iff.1 h
  obtain ⟨h1, _, h3, _, h5⟩ := hasShape_bd hs
  have hr : ∀ r ∈ m, r.length ≤ 9 := by
    intro r hr
    obtain ⟨i, hi, rfl⟩ := List.mem_iff_getElem.1 hr
    have := h5 i hi
    rw [rows_eq m i hi] at this
    have := at0_bd h1 (i : Int)
    omega
  refine ⟨h3, hr, ?_⟩
  intro x hx
  obtain ⟨r, hrm, hxr⟩ := List.mem_flatten.1 hx
  obtain ⟨i, hi, rfl⟩ := List.mem_iff_getElem.1 hrm
  obtain ⟨j, hj, rfl⟩ := List.mem_iff_getElem.1 hxr
  have := (hc i hi j (by rw [rows_eq m i hi]; exact hj)).1
  rw [rows_eq m i hi, rd_eq _ j hj] at this
  exact this
theorem isTab_bulk {n : List Int} {m : List (List Int)} (h : isTab n m = true) : m.flatten.length ≤ 81 := by
  obtain ⟨h1, h2, _⟩ := isTab_cells h
  have := bulk_le9 h2
  rw [flatten_bulk]
  omega
end Go.Proofs.Ytdcdndfgdmcomaa.Q

set_option linter.unusedVariables false
set_option linter.unusedSimpArgs false
namespace Go.Proofs.Ytdcdndfgdmcomaa.Q
open Go.RowKit Go.Proofs.Ytdcdndfgdmcomaa.F Go.Proofs.YtdcdndfgdmcomaaW.PrintWords Go.Proofs.YtdcdndfgdmcomaaW.PrintLast Go.Proofs.YtdcdndfgdmcomaaW.PrintMore
/-- how many numbers of a row are at most k -/
def cntLe (r : List Int) (k : Int) : Nat := (r.filter (fun x => decide (x ≤ k))).length
theorem cntLe_le (r : List Int) (k : Int) : cntLe r k ≤ r.length := List.length_filter_le _ _
theorem cntLe_cons (a : Int) (r : List Int) (k : Int) : cntLe (a :: r) k = if a ≤ k then cntLe r k + 1 else cntLe r k := by
  unfold cntLe
  rw [List.filter_cons]
  by_cases h : a ≤ k
  · rw [if_pos (by simpa using h), if_pos h]; rfl
  · rw [if_neg (by simpa using h), if_neg h]
theorem cntLe_iff : ∀ {r : List Int}, r.Pairwise (fun a b => a ≤ b) → ∀ (k : Int) (j : Nat) (hj : j < r.length), j < cntLe r k ↔ r[j] ≤ k
  | [], _, _, _, hj => by simp at hj
  | a :: r, hp, k, j, hj => by
    obtain ⟨h1, h2⟩ := List.pairwise_cons.1 hp
    rw [cntLe_cons]
    by_cases h : a ≤ k
    · rw [if_pos h]
      cases j with
      | zero => simp [h]
      | succ j =>
        have := cntLe_iff h2 k j (by simpa using hj)
        rw [List.getElem_cons_succ]
        omega
    · rw [if_neg h]
      have h0 : cntLe r k = 0 := by
        unfold cntLe
        rw [List.length_eq_zero_iff, List.filter_eq_nil_iff]
        intro x hx
        have := h1 x hx
        simp only [decide_eq_true_eq]
        omega
      rw [h0]
      cases j with
      | zero => simp [h]
      | succ j =>
        have := h1 _ (List.getElem_mem (by simpa using hj : j < r.length))
        rw [List.getElem_cons_succ]
        omega
/-- how far row i reaches with the entries up to k -/
def level (n : List Int) (m : List (List Int)) (k : Int) (i : Nat) : Int := at0 n (i : Int) + (cntLe (rd_L1 m (i : Int)) k : Int)
def levelRow (n : List Int) (m : List (List Int)) (k : Int) : List Int := (List.range m.length).map (level n m k)
theorem tab_pair {n : List Int} {m : List (List Int)} (ht : isTab n m = true) (i : Nat) (hi : i < m.length) : (rd_L1 m (i : Int)).Pairwise (fun a b => a ≤ b) := by
  obtain ⟨_, hc⟩ := isTab_iff.1 ht
  have h1 : ∀ d j : Nat, j + d < (rd_L1 m (i : Int)).length → rd (rd_L1 m (i : Int)) (j : Int) ≤ rd (rd_L1 m (i : Int)) ((j + d : Nat) : Int) := by
    intro d
    induction d with
    | zero => intro j _; exact Int.le_refl _
    | succ d ih =>
      intro j hj
      have h2 := (hc i hi (j + d + 1) (by omega)).2.1 (by omega)
      rw [Nat.add_sub_cancel] at h2
      exact Int.le_trans (ih j (by omega)) h2
  rw [List.pairwise_iff_getElem]
  intro a b ha hb hab
  have h2 := h1 (b - a) a (by omega)
  rw [show a + (b - a) = b by omega, rd_eq _ a ha, rd_eq _ b hb] at h2
  exact h2
theorem level_anti {n : List Int} {m : List (List Int)} (ht : isTab n m = true) (k : Int) (i : Nat) (hi : i + 1 < m.length) : level n m k (i + 1) ≤ level n m k i := by
  obtain ⟨hs, hc⟩ := isTab_iff.1 ht
  obtain ⟨hn, _, _, ho, _⟩ := hasShape_bd hs
  rcases Int.lt_or_le (level n m k i) (level n m k (i + 1)) with hlt | hge
  · exfalso
    have hna := isPartition_anti hn (i := i) (j := i + 1) (by omega)
    have hoa := isPartition_anti ho (i := i) (j := i + 1) (by omega)
    rw [at0_nat _ _ (by rw [outerOf_length]; omega), at0_nat _ _ (by rw [outerOf_length]; omega), outerOf_rd n m i (by omega), outerOf_rd n m (i + 1) hi] at hoa
    have c1 := cntLe_le (rd_L1 m (i : Int)) k
    have c2 := cntLe_le (rd_L1 m ((i + 1 : Nat) : Int)) k
    unfold level at hlt
    obtain ⟨q, hq⟩ : ∃ q : Nat, at0 n (i : Int) + (cntLe (rd_L1 m (i : Int)) k : Int) - at0 n ((i + 1 : Nat) : Int) = (q : Int) := ⟨(at0 n (i : Int) + (cntLe (rd_L1 m (i : Int)) k : Int) - at0 n ((i + 1 : Nat) : Int)).toNat, by omega⟩
    have hql : q < (rd_L1 m ((i + 1 : Nat) : Int)).length := by omega
    have h1 := (cntLe_iff (tab_pair ht (i + 1) hi) k q hql).1 (by omega)
    rw [← rd_eq _ q hql] at h1
    have h2 := (hc (i + 1) hi q hql).2.2 (by omega)
    rw [Nat.add_sub_cancel] at h2
    have h3 : entryOf n m (i : Int) (at0 n ((i + 1 : Nat) : Int) + (q : Int)) = at0 (rd_L1 m (i : Int)) ((cntLe (rd_L1 m (i : Int)) k : Nat) : Int) := by
      unfold entryOf
      rw [if_pos (by omega)]
      congr 1
      omega
    rw [h3] at h2
    rcases Nat.lt_or_ge (cntLe (rd_L1 m (i : Int)) k) (rd_L1 m (i : Int)).length with hcl | hcl
    · rw [at0_nat _ _ hcl] at h2
      have h4 := cntLe_iff (tab_pair ht i (by omega)) k _ hcl
      rw [← rd_eq _ _ hcl] at h4
      have h5 : ¬ rd (rd_L1 m (i : Int)) ((cntLe (rd_L1 m (i : Int)) k : Nat) : Int) ≤ k := fun e => absurd (h4.2 e) (Nat.lt_irrefl _)
      omega
    · omega
  · exact hge
/-- behind the last number that is no nought there are noughts alone -/
theorem trimLen_zero (l : List Int) : ∀ (k j : Nat), trimLen l k ≤ j → j < k → rd l (j : Int) = 0
  | 0, j, _, h => by omega
  | k + 1, j, h1, h2 => by
    simp only [trimLen] at h1
    by_cases e : rd l (k : Int) = 0
    · rw [if_pos e] at h1
      by_cases ej : j = k
      · rw [ej]; exact e
      · exact trimLen_zero l k j h1 (by omega)
    · rw [if_neg e] at h1
      omega
theorem at0_trimZ (l : List Int) (j : Nat) : at0 (trimZ l) (j : Int) = at0 l (j : Int) := by
  have hle := trimLen_le l l.length
  unfold trimZ
  by_cases h1 : j < trimLen l l.length
  · rw [at0_nat _ _ (by rw [List.length_take]; omega), at0_nat _ _ (by omega), rd_nat, rd_nat, List.getD_eq_getElem?_getD, List.getD_eq_getElem?_getD, List.getElem?_take, if_pos h1]
  · rw [at0_out _ _ (by rw [List.length_take]; omega)]
    by_cases h2 : j < l.length
    · rw [at0_nat _ _ h2, trimLen_zero l l.length j (by omega) h2]
    · rw [at0_out _ _ (by omega)]
/-- two partitions that tell the same numbers are one -/
theorem part_ext {p q : List Int} (hp : isPartition p = true) (hq : isPartition q = true) (h : ∀ j : Nat, at0 p (j : Int) = at0 q (j : Int)) : p = q := by
  have key : ∀ {a b : List Int}, isPartition a = true → (∀ j : Nat, at0 a (j : Int) = at0 b (j : Int)) → a.length ≤ b.length := by
    intro a b ha hab
    rcases Nat.lt_or_ge b.length a.length with hl | hl
    · exfalso
      have h1 := hab b.length
      rw [at0_nat _ _ hl, at0_out _ _ (by omega)] at h1
      have := (isPartition_bd ha).2.2 _ (rd_mem a b.length hl)
      omega
    · exact hl
  have hl : p.length = q.length := Nat.le_antisymm (key hp h) (key hq (fun j => (h j).symm))
  refine List.ext_getElem hl fun i h1 h2 => ?_
  have := h i
  rwa [at0_nat _ _ h1, at0_nat _ _ h2, rd_eq _ _ h1, rd_eq _ _ h2] at this
theorem levelRow_length (n : List Int) (m : List (List Int)) (k : Int) : (levelRow n m k).length = m.length := by simp [levelRow]
theorem levelRow_rd (n : List Int) (m : List (List Int)) (k : Int) (i : Nat) (hi : i < m.length) : rd (levelRow n m k) (i : Int) = level n m k i := by
  rw [rd_eq _ i (by rw [levelRow_length]; exact hi)]
  simp [levelRow]
theorem isum_le_of : ∀ {a b : List Int}, a.length = b.length → (∀ (i : Nat) (h1 : i < a.length) (h2 : i < b.length), a[i] ≤ b[i]) → isum a ≤ isum b
  | [], [], _, _ => Int.le_refl _
  | [], _ :: _, h, _ => by simp at h
  | _ :: _, [], h, _ => by simp at h
  | x :: a, y :: b, h, hi => by
    have h0 := hi 0 (by simp) (by simp)
    have h1 := isum_le_of (a := a) (b := b) (by simpa using h) (fun i h1 h2 => by have := hi (i + 1) (by simpa using h1) (by simpa using h2); simpa using this)
    simp only [List.getElem_cons_zero] at h0
    simp only [isum]
    omega
theorem isum_take_le : ∀ (l : List Int) (t : Nat), (∀ x ∈ l, 0 ≤ x) → isum (l.take t) ≤ isum l ∧ 0 ≤ isum l
  | [], t, _ => by simp [isum]
  | x :: l, 0, h => by
    have h1 := isum_take_le l 0 (fun y hy => h y (by simp [hy]))
    have h2 := h x (by simp)
    simp only [List.take_zero, isum] at h1 ⊢
    omega
  | x :: l, t + 1, h => by
    have h1 := isum_take_le l t (fun y hy => h y (by simp [hy]))
    have h2 := h x (by simp)
    simp only [List.take_succ_cons, isum]
    omega
theorem trimLen_last (l : List Int) : ∀ (k t : Nat), trimLen l k = t + 1 → rd l (t : Int) ≠ 0
  | 0, t, h => by simp [trimLen] at h
  | k + 1, t, h => by
    simp only [trimLen] at h
    by_cases e : rd l (k : Int) = 0
    · rw [if_pos e] at h
      exact trimLen_last l k t h
    · rw [if_neg e] at h
      obtain rfl : k = t := by omega
      exact e
theorem level_mono {n : List Int} {m : List (List Int)} (ht : isTab n m = true) (k : Int) : ∀ (d i : Nat), i + d < m.length → level n m k (i + d) ≤ level n m k i
  | 0, i, _ => Int.le_refl _
  | d + 1, i, h => Int.le_trans (level_anti ht k (i + d) (by omega)) (level_mono ht k d i (by omega))
/-- what the chain's k-th partition is -/
theorem level_part {n : List Int} {m : List (List Int)} (ht : isTab n m = true) (k : Int) : isPartition (trimZ (levelRow n m k)) = true := by
  obtain ⟨hs, _⟩ := isTab_iff.1 ht
  obtain ⟨hn, _, _, ho, _⟩ := hasShape_bd hs
  have hl := levelRow_length n m k
  have hnn : ∀ i : Nat, 0 ≤ level n m k i := fun i => by
    have := at0_bd hn (i : Int)
    unfold level
    omega
  have hget : ∀ (i : Nat) (h : i < (levelRow n m k).length), (levelRow n m k)[i] = level n m k i := fun i h => by simp [levelRow]
  have hpos : ∀ x ∈ levelRow n m k, 0 ≤ x := fun x hx => by
    obtain ⟨i, hi, rfl⟩ := List.mem_iff_getElem.1 hx
    rw [hget]; exact hnn i
  have hle := trimLen_le (levelRow n m k) (levelRow n m k).length
  refine isPartition_iff.2 ⟨fun x hx => ?_, ?_, ?_⟩
  · unfold trimZ at hx
    obtain ⟨i, hi, rfl⟩ := List.mem_iff_getElem.1 hx
    rw [List.length_take] at hi
    rw [List.getElem_take, hget]
    obtain ⟨t, htt⟩ : ∃ t, trimLen (levelRow n m k) (levelRow n m k).length = t + 1 := ⟨trimLen (levelRow n m k) (levelRow n m k).length - 1, by omega⟩
    have h1 := trimLen_last _ _ t htt
    rw [levelRow_rd n m k t (by omega)] at h1
    have h2 := level_mono ht k (t - i) i (by omega)
    rw [show i + (t - i) = t by omega] at h2
    have := hnn t
    omega
  · unfold trimZ
    rw [List.pairwise_iff_getElem]
    intro a b ha hb hab
    rw [List.length_take] at ha hb
    rw [List.getElem_take, List.getElem_take, hget, hget]
    have h2 := level_mono ht k (b - a) a (by omega)
    rwa [show a + (b - a) = b by omega] at h2
  · have h1 := (isum_take_le (levelRow n m k) (trimLen (levelRow n m k) (levelRow n m k).length) hpos).1
    have h2 : isum (levelRow n m k) ≤ isum (outerOf n m) := isum_le_of (by rw [hl, outerOf_length]) (fun i h1 h2 => by
      rw [hget, ← rd_eq _ i h2, outerOf_rd n m i (by rw [hl] at h1; exact h1)]
      have := cntLe_le (rd_L1 m (i : Int)) k
      unfold level
      omega)
    have h3 := (isPartition_bd ho).1
    unfold trimZ
    omega
theorem cntLe_step : ∀ (r : List Int) (k : Int), cntLe r k = cntLe r (k - 1) + r.countP (fun x => decide (x = k))
  | [], k => by simp [cntLe]
  | a :: r, k => by
    have ih := cntLe_step r k
    rw [cntLe_cons, cntLe_cons, List.countP_cons]
    by_cases h1 : a = k
    · rw [if_pos (by omega), if_neg (by omega), if_pos (by simpa using h1)]; omega
    · by_cases h2 : a ≤ k
      · rw [if_pos h2, if_pos (by omega), if_neg (by simpa using h1)]; omega
      · rw [if_neg h2, if_neg (by omega), if_neg (by simpa using h1)]; omega
end Go.Proofs.Ytdcdndfgdmcomaa.Q

set_option linter.unusedVariables false
set_option linter.unusedSimpArgs false
namespace Go.Proofs.Ytdcdndfgdmcomaa.Q
open Go.RowKit Go.Proofs.Ytdcdndfgdmcomaa.F Go.Proofs.YtdcdndfgdmcomaaW.PrintWords Go.Proofs.YtdcdndfgdmcomaaW.PrintLast Go.Proofs.YtdcdndfgdmcomaaW.PrintMore
theorem slices_Index_l0 (l : List Int) (x : Int) (hl : l.length ≤ 1048576) : ∀ i, i ≤ l.length → ∃ v, Ev (fun k => slices_Index_int_int.l0 k l x (l.length : Int) (i : Int)) v ∧ (0 ≤ v ↔ x ∈ l.drop i) := by
  refine downTo l.length ?_ ?_
  · refine ⟨-1, ?_, by simp⟩
    refine Ev.step (fun k => by rw [slices_Index_int_int.l0]) ?_
    exact ev_neg (by omega) (ev_val rfl)
  · rintro i hi ⟨v, hv, hm⟩
    by_cases hx : x = rd l (i : Int)
    · refine ⟨(i : Int), ?_, by rw [drop_rd l i hi, ← hx]; simp⟩
      refine Ev.step (fun k => by rw [slices_Index_int_int.l0]) ?_
      exact ev_pos (by omega) (ev_pos (by omega) (ev_pos (by omega) (ev_pos hx (ev_val rfl))))
    · refine ⟨v, ?_, by rw [hm, drop_rd l i hi, List.mem_cons]; simp [hx]⟩
      refine Ev.step (fun k => by rw [slices_Index_int_int.l0]) ?_
      refine ev_pos (by omega) (ev_pos (by omega) (ev_pos (by omega) (ev_neg hx ?_)))
      rw [wrap_succ (by omega)]; exact hv
theorem slices_Contains_ev (l : List Int) (x : Int) (hl : l.length ≤ 1048576) : Ev (fun k => slices_Contains_int_int.f k l x) (decide (x ∈ l)) := by
  unfold slices_Contains_int_int.f
  obtain ⟨v, hv, hm⟩ := slices_Index_l0 l x hl 0 (by omega)
  refine Ev.bind (f := fun _ t => some (decide (t ≥ 0))) hv (ev_val ?_)
  rw [List.drop_zero] at hm
  by_cases h : x ∈ l
  · rw [decide_eq_true h, decide_eq_true (hm.2 h)]
  · rw [decide_eq_false h, decide_eq_false (fun h' => h (hm.1 h'))]
end Go.Proofs.Ytdcdndfgdmcomaa.Q

set_option linter.unusedVariables false
set_option linter.unusedSimpArgs false
namespace Go.Proofs.Ytdcdndfgdmcomaa.Q
open Go.RowKit Go.Proofs.Ytdcdndfgdmcomaa.F Go.Proofs.YtdcdndfgdmcomaaW.PrintWords Go.Proofs.YtdcdndfgdmcomaaW.PrintLast Go.Proofs.YtdcdndfgdmcomaaW.PrintMore
def areOnce (l : List Int) : Bool := (List.range l.length).all (fun v => decide (((v + 1 : Nat) : Int) ∈ l))
theorem areOnce_iff {l : List Int} : areOnce l = true ↔ ∀ v : Nat, 1 ≤ v → v ≤ l.length → (v : Int) ∈ l := by
  unfold areOnce
  rw [List.all_eq_true]
  constructor
  · intro h v a b
    have := h (v - 1) (by rw [List.mem_range]; omega)
    rw [decide_eq_true_eq, show v - 1 + 1 = v by omega] at this
    exact this
  · intro h v hv
    rw [List.mem_range] at hv
    rw [decide_eq_true_eq]
    exact h (v + 1) (by omega) (by omega)
theorem impl_areOnce_ev (l : List Int) (hl : l.length ≤ 1048576) : Ev (fun k => impl_areOnce.f k l) (areOnce l) := by
  have key : ∀ i, i ≤ l.length → ∃ b, Ev (fun k => impl_areOnce.l0 k l ((i + 1 : Nat) : Int)) b ∧ (b = true ↔ ∀ v : Nat, i < v → v ≤ l.length → (v : Int) ∈ l) := by
    refine downTo l.length ?_ ?_
    · refine ⟨true, ?_, by simp; intro v a b; omega⟩
      refine Ev.step (fun k => by rw [impl_areOnce.l0]) ?_
      exact ev_neg (by omega) (ev_val rfl)
    · rintro i hi ⟨b, hb, ih⟩
      by_cases h : ((i + 1 : Nat) : Int) ∈ l
      · refine ⟨b, ?_, ?_⟩
        · refine Ev.step (fun k => by rw [impl_areOnce.l0]) ?_
          refine ev_pos (by omega) (Ev.bind (slices_Contains_ev l _ hl) (ev_pos (decide_eq_true h) ?_))
          rw [wrap_succ (by omega)]
          exact hb
        · rw [ih]
          constructor
          · intro g v a b
            by_cases e : v = i + 1
            · subst e; exact h
            · exact g v (by omega) b
          · intro g v a b; exact g v (by omega) b
      · refine ⟨false, ?_, by simp; exact ⟨i + 1, by omega, by omega, h⟩⟩
        refine Ev.step (fun k => by rw [impl_areOnce.l0]) ?_
        exact ev_pos (by omega) (Ev.bind (slices_Contains_ev l _ hl) (ev_neg (by simpa using h) (ev_val rfl)))
  unfold impl_areOnce.f
  obtain ⟨b, hb, ih⟩ := key 0 (by omega)
  refine ev_eq hb ?_
  rw [Bool.eq_iff_iff, ih, areOnce_iff]
  exact Iff.rfl
end Go.Proofs.Ytdcdndfgdmcomaa.Q

set_option linter.unusedVariables false
set_option linter.unusedSimpArgs false
namespace Go.Proofs.Ytdcdndfgdmcomaa.Q
open Go.RowKit Go.Proofs.Ytdcdndfgdmcomaa.F Go.Proofs.YtdcdndfgdmcomaaW.PrintWords Go.Proofs.YtdcdndfgdmcomaaW.PrintLast Go.Proofs.YtdcdndfgdmcomaaW.PrintMore
theorem slices_Concat_l1 (m : List (List Int)) (hm : m.length ≤ 1048576) (hb : bulk m ≤ 1048576) : ∀ i, i ≤ m.length → Ev (fun k => slices_Concat_int_int.l1 k (m.take i).flatten m (m.length : Int) (i : Int)) m.flatten := by
  refine downTo m.length ?_ ?_
  · refine Ev.step (fun k => by rw [slices_Concat_int_int.l1]) ?_
    exact ev_neg (by omega) (ev_val (by rw [List.take_length]))
  · intro i hi h
    have e : (m.take i).flatten ++ rd_L1 m (i : Int) = (m.take (i + 1)).flatten := by rw [take_rows m i hi, List.flatten_append]; simp
    have hl : (m.take i).flatten.length + (rd_L1 m (i : Int)).length ≤ bulk m := by
      rw [← List.length_append, e, ← flatten_bulk m, List.length_flatten, List.length_flatten, List.map_take]
      conv => rhs; rw [← List.take_append_drop (i + 1) (m.map List.length), List.sum_append]
      omega
    refine Ev.step (fun k => by rw [slices_Concat_int_int.l1]) ?_
    refine ev_pos (by omega) (ev_pos (by omega) (ev_pos (by omega) (ev_pos (by omega) ?_)))
    rw [e, wrap_succ (by omega)]
    exact h
theorem slices_Concat_l0 (m : List (List Int)) (hm : m.length ≤ 1048576) (hb : bulk m ≤ 1048576) : ∀ i, i ≤ m.length → Ev (fun k => slices_Concat_int_int.l0 k m (((m.take i).flatten.length : Nat) : Int) m (m.length : Int) (i : Int)) m.flatten := by
  refine downTo m.length ?_ ?_
  · refine Ev.step (fun k => by rw [slices_Concat_int_int.l0]) ?_
    refine ev_neg (by omega) ?_
    rw [List.take_length, flatten_bulk]
    refine ev_bindc (b := []) (by unfold slices_Grow_int_int.f; rw [if_pos ⟨rfl, by omega, by omega⟩]) ?_
    have := slices_Concat_l1 m hm hb 0 (by omega)
    simpa using this
  · intro i hi h
    have e : (m.take i).flatten ++ rd_L1 m (i : Int) = (m.take (i + 1)).flatten := by rw [take_rows m i hi, List.flatten_append]; simp
    have hl : (m.take i).flatten.length + (rd_L1 m (i : Int)).length ≤ bulk m := by
      rw [← List.length_append, e, ← flatten_bulk m, List.length_flatten, List.length_flatten, List.map_take]
      conv => rhs; rw [← List.take_append_drop (i + 1) (m.map List.length), List.sum_append]
      omega
    have e2 : wrap64 (((m.take i).flatten.length : Nat) + ((rd_L1 m (i : Int)).length : Int)) = (((m.take (i + 1)).flatten.length : Nat) : Int) := by
      rw [← e, List.length_append, wrap_id (by omega) (by omega)]; omega
    refine Ev.step (fun k => by rw [slices_Concat_int_int.l0]) ?_
    refine ev_pos (by omega) (ev_pos (by omega) (ev_pos (by omega) ?_))
    rw [e2, wrap_succ (by omega)]
    exact ev_neg (by omega) h
theorem slices_Concat_ev (m : List (List Int)) (hm : m.length ≤ 1048576) (hb : bulk m ≤ 1048576) : Ev (fun k => slices_Concat_int_int.f k m) m.flatten := by
  unfold slices_Concat_int_int.f
  have := slices_Concat_l0 m hm hb 0 (by omega)
  simpa using this
end Go.Proofs.Ytdcdndfgdmcomaa.Q

set_option linter.unusedVariables false
set_option linter.unusedSimpArgs false
namespace Go.Proofs.Ytdcdndfgdmcomaa.Q
open Go.RowKit Go.Proofs.Ytdcdndfgdmcomaa.F Go.Proofs.YtdcdndfgdmcomaaW.PrintWords Go.Proofs.YtdcdndfgdmcomaaW.PrintLast Go.Proofs.YtdcdndfgdmcomaaW.PrintMore
end Go.Proofs.Ytdcdndfgdmcomaa.Q

set_option linter.unusedVariables false
set_option linter.unusedSimpArgs false
namespace Go.Proofs.Ytdcdndfgdmcomaa.Q
open Go.RowKit Go.Proofs.Ytdcdndfgdmcomaa.F Go.Proofs.YtdcdndfgdmcomaaW.PrintWords Go.Proofs.YtdcdndfgdmcomaaW.PrintLast Go.Proofs.YtdcdndfgdmcomaaW.PrintMore
def isStd (n : List Int) (m : List (List Int)) : Bool := isTab n m && areOnce m.flatten
theorem impl_IsStandard_ev (n : List Int) (m : List (List Int)) (hn : n.length ≤ 1048576) (hm : m.length ≤ 1048576) (hb : bulk m ≤ 1048576) : Ev (fun k => impl_IsStandard.f k n m) (isStd n m) := by
  have hr : ∀ r ∈ m, r.length ≤ 1048576 := fun r h => by have := bulk_mem h; omega
  unfold impl_IsStandard.f isStd
  refine Ev.bind (impl_IsTableau_ev n m hn hm hr) (ev_ite (fun h => ?_) (fun h => ?_))
  · refine Ev.bind (slices_Concat_ev m hm hb) (Ev.bind (impl_areOnce_ev _ (by rw [flatten_bulk]; exact hb)) (ev_val ?_))
    rw [h, Bool.true_and]
  · rw [Bool.not_eq_true] at h
    exact ev_val (by rw [h]; rfl)
end Go.Proofs.Ytdcdndfgdmcomaa.Q

set_option linter.unusedVariables false
set_option linter.unusedSimpArgs false
namespace Go.Proofs.Ytdcdndfgdmcomaa.Q
open Go.RowKit Go.Proofs.Ytdcdndfgdmcomaa.F Go.Proofs.YtdcdndfgdmcomaaW.PrintWords Go.Proofs.YtdcdndfgdmcomaaW.PrintLast Go.Proofs.YtdcdndfgdmcomaaW.PrintMore
/-- the chain of a standard tableau -/
def chainOf (n : List Int) (m : List (List Int)) : List (List Int) := if isStd n m = true then (List.range (m.flatten.length + 1)).map (fun k : Nat => trimZ (levelRow n m (k : Int))) else []
end Go.Proofs.Ytdcdndfgdmcomaa.Q

set_option linter.unusedVariables false
set_option linter.unusedSimpArgs false
namespace Go.Proofs.Ytdcdndfgdmcomaa.Q
open Go.RowKit Go.Proofs.Ytdcdndfgdmcomaa.F Go.Proofs.YtdcdndfgdmcomaaW.PrintWords Go.Proofs.YtdcdndfgdmcomaaW.PrintLast Go.Proofs.YtdcdndfgdmcomaaW.PrintMore
/-- a list with one cell more in row a -/
def boxed (p : List Int) (a : Int) : List Int := (if a = (p.length : Int) then p ++ [0] else p).set a.toNat (rd (if a = (p.length : Int) then p ++ [0] else p) a + 1)
def addBox (p : List Int) (a : Int) : List Int × Bool := if (isPartition p = true ∧ 0 ≤ a ∧ a ≤ (p.length : Int)) ∧ isPartition (boxed p a) = true then (boxed p a, true) else ([], false)
theorem boxed_length (p : List Int) (a : Int) (h0 : 0 ≤ a) (h : a ≤ (p.length : Int)) : (boxed p a).length = if a = (p.length : Int) then p.length + 1 else p.length := by
  unfold boxed; rw [List.length_set]; split <;> simp
theorem addBox_le (p : List Int) (a : Int) : (addBox p a).1.length ≤ 9 := by
  unfold addBox
  split
  · rename_i h; exact (isPartition_bd h.2).2.1
  · simp
theorem addBox_fst {p : List Int} {a : Int} (h : (addBox p a).2 = true) : (isPartition p = true ∧ 0 ≤ a ∧ a ≤ (p.length : Int)) ∧ isPartition (boxed p a) = true ∧ (addBox p a).1 = boxed p a := by
  unfold addBox at h ⊢
  split at h
  · rename_i h2; rw [if_pos h2]; exact ⟨h2.1, h2.2, rfl⟩
  · cases h
theorem rd_app0 (p : List Int) (j : Nat) : rd (p ++ [0]) (j : Int) = at0 p (j : Int) := by
  rw [rd_nat]
  by_cases h : j < p.length
  · rw [at0_nat p j h, rd_nat, List.getD_eq_getElem?_getD, List.getD_eq_getElem?_getD, List.getElem?_append_left h]
  · rw [at0_out p j (by omega), List.getD_eq_getElem?_getD]
    by_cases e : j = p.length
    · subst e; simp
    · rw [List.getElem?_eq_none (by simp; omega)]; rfl
/-- what the list with one cell more holds -/
theorem boxed_at (p : List Int) (a : Nat) (h : a ≤ p.length) (j : Nat) : at0 (boxed p (a : Int)) (j : Int) = at0 p (j : Int) + if j = a then 1 else 0 := by
  have hl := boxed_length p (a : Int) (by omega) (by omega)
  have hq : ∀ j : Nat, rd (if (a : Int) = (p.length : Int) then p ++ [0] else p) (j : Int) = at0 p (j : Int) := by
    intro j
    split
    · exact rd_app0 p j
    · by_cases hj : j < p.length
      · rw [at0_nat p j hj]
      · rw [at0_out p j (by omega), rd_nat, List.getD_eq_getElem?_getD, List.getElem?_eq_none (by omega)]; rfl
  have hql : a < (if (a : Int) = (p.length : Int) then p ++ [0] else p).length := by
    split
    · rw [List.length_append, List.length_singleton]; omega
    · omega
  have hr : rd (boxed p (a : Int)) (j : Int) = if a = j then at0 p (a : Int) + 1 else at0 p (j : Int) := by
    unfold boxed
    rw [Int.toNat_natCast, rd_set _ a j _ hql, hq a, hq j]
  by_cases hj : j < (boxed p (a : Int)).length
  · rw [at0_nat _ j hj, hr]
    by_cases e : a = j
    · subst e; rw [if_pos rfl, if_pos rfl]
    · rw [if_neg e, if_neg (fun h => e h.symm)]; omega
  · rw [at0_out _ j (by omega)]
    have : ¬ j = a := by intro e; subst e; split at hl <;> omega
    rw [if_neg this, at0_out p j (by split at hl <;> omega)]; rfl
end Go.Proofs.Ytdcdndfgdmcomaa.Q

set_option linter.unusedVariables false
set_option linter.unusedSimpArgs false
namespace Go.Proofs.Ytdcdndfgdmcomaa.Q
open Go.RowKit Go.Proofs.Ytdcdndfgdmcomaa.F Go.Proofs.YtdcdndfgdmcomaaW.PrintWords Go.Proofs.YtdcdndfgdmcomaaW.PrintLast Go.Proofs.YtdcdndfgdmcomaaW.PrintMore
def rowFrom (a : Int) : List (List Int) → Nat → Int
  | [], _ => -1
  | r :: l, i => if a ∈ r then (i : Int) else rowFrom a l (i + 1)
def rowOf (n : List Int) (m : List (List Int)) (a : Int) : Int := if isStd n m = true then rowFrom a m 0 else -1
end Go.Proofs.Ytdcdndfgdmcomaa.Q

set_option linter.unusedVariables false
set_option linter.unusedSimpArgs false
namespace Go.Proofs.Ytdcdndfgdmcomaa.Q
open Go.RowKit Go.Proofs.Ytdcdndfgdmcomaa.F Go.Proofs.YtdcdndfgdmcomaaW.PrintWords Go.Proofs.YtdcdndfgdmcomaaW.PrintLast Go.Proofs.YtdcdndfgdmcomaaW.PrintMore
theorem all_step {P : Nat → Prop} [DecidablePred P] {N i : Nat} (hp : P i) : decide (∀ k, k < N → i ≤ k → P k) = decide (∀ k, k < N → i + 1 ≤ k → P k) := by
  rw [decide_eq_decide]
  constructor
  · intro h k h1 h2; exact h k h1 (by omega)
  · intro h k h1 h2
    by_cases e : k = i
    · rw [e]; exact hp
    · exact h k h1 (by omega)
theorem all_fail {P : Nat → Prop} [DecidablePred P] {N i : Nat} (hi : i < N) (hp : ¬ P i) : decide (∀ k, k < N → i ≤ k → P k) = false := decide_eq_false (fun h => hp (h i hi (Nat.le_refl _)))
theorem all_done {P : Nat → Prop} [DecidablePred P] {N i : Nat} (hi : N ≤ i) : decide (∀ k, k < N → i ≤ k → P k) = true := decide_eq_true (fun k h1 h2 => by omega)
/-- no two of the new cells stand in one column -/
def hCells (o n : List Int) (i : Nat) : Bool := decide (∀ k, k < o.length → i ≤ k → rd o (k : Int) ≤ at0 n ((k : Int) - 1))
def hStrip (o n : List Int) : Bool := isInside n o && hCells o n 1
/-- no two of the new cells stand in one row -/
def vCells (o n : List Int) (i : Nat) : Bool := decide (∀ k, k < o.length → i ≤ k → rd o (k : Int) ≤ at0 n (k : Int) + 1)
def vStrip (o n : List Int) : Bool := isInside n o && vCells o n 0
section
variable {o n : List Int}
end
end Go.Proofs.Ytdcdndfgdmcomaa.Q

set_option linter.unusedVariables false
set_option linter.unusedSimpArgs false
namespace Go.Proofs.Ytdcdndfgdmcomaa.Q
open Go.RowKit Go.Proofs.Ytdcdndfgdmcomaa.F Go.Proofs.YtdcdndfgdmcomaaW.PrintWords Go.Proofs.YtdcdndfgdmcomaaW.PrintLast Go.Proofs.YtdcdndfgdmcomaaW.PrintMore
theorem isum_ext : ∀ {a b : List Int}, a.length = b.length → (∀ (i : Nat) (h1 : i < a.length) (h2 : i < b.length), a[i] ≤ b[i]) → isum a ≤ isum b ∧ (isum a = isum b → a = b)
  | [], [], _, _ => ⟨Int.le_refl _, fun _ => rfl⟩
  | [], _ :: _, h, _ => by simp at h
  | _ :: _, [], h, _ => by simp at h
  | x :: a, y :: b, h, hi => by
    have h0 := hi 0 (by simp) (by simp)
    obtain ⟨h1, h2⟩ := isum_ext (a := a) (b := b) (by simpa using h) (fun i h1 h2 => by have := hi (i + 1) (by simpa using h1) (by simpa using h2); simpa using this)
    simp only [List.getElem_cons_zero] at h0
    simp only [isum]
    exact ⟨by omega, fun e => by rw [h2 (by omega), show x = y by omega]⟩
theorem isum_take_le' (l : List Int) (h : ∀ x ∈ l, 1 ≤ x) (t : Nat) (ht : t < l.length) : isum (l.take t) + 1 ≤ isum l := by
  have e := isum_append (l.take t) (l.drop t)
  rw [List.take_append_drop] at e
  have h2 : isum (l.drop t) ≥ 1 := by
    rw [List.drop_eq_getElem_cons ht]
    have h3 := h _ (List.getElem_mem ht)
    have h4 := isum_ge (l := l.drop (t + 1)) (fun x hx => h x (List.mem_of_mem_drop hx))
    simp only [isum]
    omega
  omega
theorem inside_same {n o : List Int} (h : isInside n o = true) (hs : isum n = isum o) : n = o := by
  obtain ⟨hn, ho, hl, hr⟩ := isInside_len h
  have hpos := fun x hx => ((isPartition_bd ho).2.2 x hx).1
  have hle : ∀ (i : Nat) (h1 : i < n.length) (h2 : i < (o.take n.length).length), n[i] ≤ (o.take n.length)[i] := fun i h1 h2 => by
    have := hr i h1
    rw [rd_eq _ i h1, rd_eq _ i (by omega)] at this
    rw [List.getElem_take]; exact this
  obtain ⟨h3, h4⟩ := isum_ext (by rw [List.length_take]; omega) hle
  by_cases e : n.length = o.length
  · rw [e, List.take_length] at h4
    exact h4 hs
  · have := isum_take_le' o hpos n.length (by omega)
    omega
theorem inside_refl {p : List Int} (h : isPartition p = true) : isInside p p = true := by
  unfold isInside
  rw [h]
  simp only [Bool.and_self, Bool.true_and]
  exact (inside_all p p 0).2 (fun j hj => by rw [at0_nat _ _ hj]; exact Int.le_refl _)
theorem hStrip_same {q p : List Int} (hq : isPartition q = true) (hp : isPartition p = true) (hs : isum q = isum p) : hStrip q p = hStrip p q := by
  by_cases e : q = p
  · rw [e]
  · have h1 : isInside p q = false := Bool.eq_false_iff.2 (fun h => e (inside_same h hs.symm).symm)
    have h2 : isInside q p = false := Bool.eq_false_iff.2 (fun h => e (inside_same h hs))
    unfold hStrip
    rw [h1, h2]
    rfl
end Go.Proofs.Ytdcdndfgdmcomaa.Q

set_option linter.unusedVariables false
set_option linter.unusedSimpArgs false
namespace Go.Proofs.Ytdcdndfgdmcomaa.Q
open Go.RowKit Go.Proofs.Ytdcdndfgdmcomaa.F Go.Proofs.YtdcdndfgdmcomaaW.PrintWords Go.Proofs.YtdcdndfgdmcomaaW.PrintLast Go.Proofs.YtdcdndfgdmcomaaW.PrintMore
theorem rowFrom_spec (a : Int) : ∀ (l : List (List Int)) (i : Nat), l.flatten.Nodup → a ∈ l.flatten → ∃ r, r < l.length ∧ rowFrom a l i = ((i + r : Nat) : Int) ∧ ∀ (j : Nat) (hj : j < l.length), a ∈ l[j] ↔ j = r
  | [], _, _, h => by simp at h
  | q :: l, i, hd, h => by
    rw [List.flatten_cons] at hd h
    obtain ⟨_, hd2, hd3⟩ := List.nodup_append.1 hd
    by_cases hq : a ∈ q
    · refine ⟨0, by simp, by rw [rowFrom, if_pos hq]; rfl, fun j hj => ?_⟩
      cases j with
      | zero => simp [hq]
      | succ j =>
        rw [List.getElem_cons_succ]
        constructor
        · intro h1
          exact absurd rfl (hd3 a hq a (List.mem_flatten.2 ⟨_, List.getElem_mem _, h1⟩))
        · intro h1; omega
    · have h1 : a ∈ l.flatten := by
        rcases List.mem_append.1 h with h1 | h1
        · exact absurd h1 hq
        · exact h1
      obtain ⟨r, g1, g2, g3⟩ := rowFrom_spec a l (i + 1) hd2 h1
      refine ⟨r + 1, by simpa using g1, by rw [rowFrom, if_neg hq, g2]; congr 1; omega, fun j hj => ?_⟩
      cases j with
      | zero => simp [hq]
      | succ j =>
        rw [List.getElem_cons_succ, g3 j (by simpa using hj)]
        omega
theorem pos_ext {p q : List Int} (hp : ∀ x ∈ p, 1 ≤ x) (hq : ∀ x ∈ q, 1 ≤ x) (h : ∀ j : Nat, at0 p (j : Int) = at0 q (j : Int)) : p = q := by
  have key : ∀ {a b : List Int}, (∀ x ∈ a, 1 ≤ x) → (∀ j : Nat, at0 a (j : Int) = at0 b (j : Int)) → a.length ≤ b.length := by
    intro a b ha hab
    rcases Nat.lt_or_ge b.length a.length with hl | hl
    · exfalso
      have h1 := hab b.length
      rw [at0_nat _ _ hl, at0_out _ _ (by omega)] at h1
      have := ha _ (rd_mem a b.length hl)
      omega
    · exact hl
  have hl : p.length = q.length := Nat.le_antisymm (key hp h) (key hq (fun j => (h j).symm))
  refine List.ext_getElem hl fun i h1 h2 => ?_
  have := h i
  rwa [at0_nat _ _ h1, at0_nat _ _ h2, rd_eq _ _ h1, rd_eq _ _ h2] at this
/-- a partition that is another with one cell more in row r -/
theorem addBox_of_at {p q : List Int} {r : Nat} (hp : isPartition p = true) (hq : isPartition q = true) (h : ∀ j : Nat, at0 q (j : Int) = at0 p (j : Int) + if j = r then 1 else 0) : addBox p (r : Int) = (q, true) := by
  have hr : r ≤ p.length := by
    rcases Nat.lt_or_ge p.length r with hl | hl
    · exfalso
      have h1 := isPartition_anti hq (i := p.length) (j := r) (by omega)
      have h2 := h p.length
      have h3 := h r
      rw [if_neg (by omega), at0_out p _ (by omega)] at h2
      rw [if_pos rfl] at h3
      have := (at0_bd hp (r : Int)).1
      omega
    · exact hl
  have hb : boxed p (r : Int) = q := by
    refine pos_ext (fun x hx => ?_) (fun x hx => ((isPartition_bd hq).2.2 x hx).1) (fun j => by rw [boxed_at p r hr j, h j])
    obtain ⟨i, hi, rfl⟩ := List.mem_iff_getElem.1 hx
    have h1 := boxed_at p r hr i
    rw [at0_nat _ i hi, rd_eq _ i hi] at h1
    have hbl := boxed_length p (r : Int) (by omega) (by omega)
    rw [h1]
    by_cases hip : i < p.length
    · rw [at0_nat _ i hip]
      have := (isPartition_bd hp).2.2 _ (rd_mem p i hip)
      split <;> omega
    · have : i = r := by
        split at hbl <;> omega
      rw [if_pos this, at0_out p _ (by omega)]
      omega
  unfold addBox
  rw [if_pos ⟨⟨hp, by omega, by omega⟩, by rw [hb]; exact hq⟩, hb]
theorem chain_step {n : List Int} {m : List (List Int)} (h : isStd n m = true) (k : Nat) (h1 : 1 ≤ k) (hk : k ≤ m.flatten.length) : addBox (trimZ (levelRow n m ((k : Int) - 1))) (rowOf n m (k : Int)) = (trimZ (levelRow n m (k : Int)), true) := by
  obtain ⟨ht, ha⟩ : isTab n m = true ∧ areOnce m.flatten = true := by
    have h2 := h
    unfold isStd at h2
    rwa [Bool.and_eq_true] at h2
  have hall := areOnce_iff.1 ha
  have hpos : ∀ x ∈ m.flatten, 1 ≤ x := fun x hx => ((isTab_cells ht).2.2 x hx).1
  obtain ⟨hd, _⟩ := (once_iff hpos).1 hall
  obtain ⟨r, g1, g2, g3⟩ := rowFrom_spec (k : Int) m 0 hd (hall k h1 hk)
  have hro : rowOf n m (k : Int) = (r : Int) := by unfold rowOf; rw [if_pos h, g2, Nat.zero_add]
  rw [hro]
  refine addBox_of_at (level_part ht _) (level_part ht _) (fun j => ?_)
  rw [at0_trimZ, at0_trimZ]
  by_cases hj : j < m.length
  · rw [at0_nat _ j (by rw [levelRow_length]; exact hj), at0_nat _ j (by rw [levelRow_length]; exact hj), levelRow_rd n m _ j hj, levelRow_rd n m _ j hj]
    unfold level
    have hrow : rd_L1 m (j : Int) = m[j] := rows_eq m j hj
    rw [hrow]
    have hc := cntLe_step m[j] (k : Int)
    have hnd : (m[j]).Nodup := List.Nodup.sublist (List.sublist_flatten_of_mem (List.getElem_mem hj)) hd
    have h9 := nodup_count hnd (k : Int)
    by_cases e : j = r
    · have hmem := (g3 j hj).2 e
      have h0 : 0 < (m[j]).countP (fun x => decide (x = (k : Int))) := List.countP_pos_iff.2 ⟨_, hmem, by simp⟩
      rw [if_pos e]
      omega
    · have hn : ¬ (k : Int) ∈ m[j] := fun g => e ((g3 j hj).1 g)
      have h0 : (m[j]).countP (fun x => decide (x = (k : Int))) = 0 := List.countP_eq_zero.2 (fun x hx => by
        simp only [decide_eq_true_eq]
        rintro rfl
        exact hn hx)
      rw [if_neg e]
      omega
  · rw [at0_out _ _ (by rw [levelRow_length]; omega), at0_out _ _ (by rw [levelRow_length]; omega), if_neg (by omega)]
    rfl
theorem chain_zero {n : List Int} {m : List (List Int)} (ht : isTab n m = true) : trimZ (levelRow n m 0) = n := by
  obtain ⟨hs, _⟩ := isTab_iff.1 ht
  obtain ⟨hn, hnm, _, _, _⟩ := hasShape_bd hs
  refine part_ext (level_part ht 0) hn (fun j => ?_)
  rw [at0_trimZ]
  by_cases hj : j < m.length
  · rw [at0_nat _ j (by rw [levelRow_length]; exact hj), levelRow_rd n m 0 j hj]
    have h0 : cntLe (rd_L1 m (j : Int)) 0 = 0 := by
      unfold cntLe
      rw [List.length_eq_zero_iff, List.filter_eq_nil_iff]
      intro x hx
      have := ((isTab_cells ht).2.2 x (List.mem_flatten.2 ⟨_, rows_mem m j hj, hx⟩)).1
      simp only [decide_eq_true_eq]
      omega
    unfold level
    rw [h0]
    simp
  · rw [at0_out _ _ (by rw [levelRow_length]; omega), at0_out _ _ (by omega)]
end Go.Proofs.Ytdcdndfgdmcomaa.Q

set_option linter.unusedVariables false
set_option linter.unusedSimpArgs false
namespace Go.Proofs.Ytdcdndfgdmcomaa.Q
open Go.RowKit Go.Proofs.Ytdcdndfgdmcomaa.F Go.Proofs.YtdcdndfgdmcomaaW.PrintWords Go.Proofs.YtdcdndfgdmcomaaW.PrintLast Go.Proofs.YtdcdndfgdmcomaaW.PrintMore
/-- row i grows at step k -/
def grows (C : List (List Int)) (k i : Nat) : Bool := decide (1 ≤ k ∧ at0 (rd_L1 C ((k - 1 : Nat) : Int)) (i : Int) < at0 (rd_L1 C (k : Int)) (i : Int))
/-- the steps ahead of m at which row i grows -/
def chainRow (C : List (List Int)) : Nat → Nat → List Int
  | 0, _ => []
  | m + 1, i => if grows C m i = true then chainRow C m i ++ [(m : Int)] else chainRow C m i
def lastLen (C : List (List Int)) : Nat := (rd_L1 C ((C.length - 1 : Nat) : Int)).length
def chainRows (C : List (List Int)) (m : Nat) : List (List Int) := (List.range (lastLen C)).map (chainRow C m)
/-- each partition is the one ahead of it with one cell more -/
def stepOk (C : List (List Int)) (k : Nat) : Prop := isInside (rd_L1 C ((k - 1 : Nat) : Int)) (rd_L1 C (k : Int)) = true ∧ isum (rd_L1 C (k : Int)) = isum (rd_L1 C ((k - 1 : Nat) : Int)) + 1
instance (C : List (List Int)) (k : Nat) : Decidable (stepOk C k) := by unfold stepOk; infer_instance
def chainOk (C : List (List Int)) (i : Nat) : Bool := decide (∀ k, k < C.length → i ≤ k → stepOk C k)
def tabChain (C : List (List Int)) : List Int × List (List Int) × Bool := if (1 ≤ C.length ∧ C.length ≤ 10) ∧ isPartition (rd_L1 C 0) = true ∧ chainOk C 1 = true then (rd_L1 C 0, chainRows C C.length, true) else ([], [], false)
section
variable {C : List (List Int)}
theorem chainRow_mem {m i : Nat} {x : Int} : x ∈ chainRow C m i ↔ ∃ k : Nat, k < m ∧ x = (k : Int) ∧ grows C k i = true := by
  induction m with
  | zero => simp [chainRow]
  | succ m ih =>
    simp only [chainRow]
    by_cases h : grows C m i = true
    · rw [if_pos h, List.mem_append, ih, List.mem_singleton]
      constructor
      · rintro (⟨k, h1, h2, h3⟩ | rfl)
        · exact ⟨k, by omega, h2, h3⟩
        · exact ⟨m, by omega, rfl, h⟩
      · rintro ⟨k, h1, rfl, h3⟩
        by_cases e : k = m
        · exact .inr (by rw [e])
        · exact .inl ⟨k, by omega, rfl, h3⟩
    · rw [if_neg h, ih]
      constructor
      · rintro ⟨k, h1, h2, h3⟩; exact ⟨k, by omega, h2, h3⟩
      · rintro ⟨k, h1, rfl, h3⟩
        by_cases e : k = m
        · subst e; exact absurd h3 h
        · exact ⟨k, by omega, rfl, h3⟩
theorem chainRow_sorted (m i : Nat) : (chainRow C m i).Pairwise (fun a b => a < b) := by
  induction m with
  | zero => exact List.Pairwise.nil
  | succ m ih =>
    simp only [chainRow]
    by_cases h : grows C m i = true
    · rw [if_pos h]
      refine List.pairwise_append.2 ⟨ih, by simp, fun a ha b hb => ?_⟩
      obtain rfl : b = (m : Int) := by simpa using hb
      obtain ⟨k, h1, rfl, _⟩ := chainRow_mem.1 ha
      omega
    · rw [if_neg h]; exact ih
theorem chainRow_le (m i : Nat) : (chainRow C m i).length ≤ m := by
  induction m with
  | zero => simp [chainRow]
  | succ m ih =>
    simp only [chainRow]
    split
    · rw [List.length_append]; simp; omega
    · omega
theorem chainRow_pre (e d i : Nat) : ∃ r, chainRow C (e + d) i = chainRow C e i ++ r := by
  induction d with
  | zero => exact ⟨[], by simp⟩
  | succ d ih =>
    obtain ⟨r, hr⟩ := ih
    show ∃ r, chainRow C (e + d + 1) i = _
    simp only [chainRow]
    by_cases h : grows C (e + d) i = true
    · rw [if_pos h, hr]; exact ⟨r ++ [((e + d : Nat) : Int)], by simp⟩
    · rw [if_neg h]; exact ⟨r, hr⟩
theorem chainRow_get {K e i : Nat} (he : e < K) (hg : grows C e i = true) : ∃ h : (chainRow C e i).length < (chainRow C K i).length, (chainRow C K i)[(chainRow C e i).length] = (e : Int) := by
  obtain ⟨r, hr⟩ := chainRow_pre (C := C) (e + 1) (K - (e + 1)) i
  rw [show e + 1 + (K - (e + 1)) = K by omega] at hr
  have h1 : chainRow C (e + 1) i = chainRow C e i ++ [(e : Int)] := by simp only [chainRow]; rw [if_pos hg]
  rw [h1] at hr
  refine ⟨by rw [hr]; simp, ?_⟩
  have h2 : (chainRow C K i)[(chainRow C e i).length]? = some (e : Int) := by rw [hr]; simp
  rw [List.getElem?_eq_getElem (by rw [hr]; simp)] at h2
  exact Option.some.inj h2
theorem chainRow_idx {K i q : Nat} (hq : q < (chainRow C K i).length) : ∃ e : Nat, e < K ∧ grows C e i = true ∧ (chainRow C K i)[q] = (e : Int) ∧ (chainRow C e i).length = q := by
  obtain ⟨e, h1, h2, h3⟩ := chainRow_mem.1 (List.getElem_mem hq)
  obtain ⟨h4, h5⟩ := chainRow_get h1 h3
  refine ⟨e, h1, h3, h2, ?_⟩
  have hp := List.pairwise_iff_getElem.1 (chainRow_sorted (C := C) K i)
  rcases Nat.lt_trichotomy (chainRow C e i).length q with h | h | h
  · have := hp _ _ h4 hq h; rw [h5, h2] at this; omega
  · exact h
  · have := hp _ _ hq h4 h; rw [h5, h2] at this; omega
theorem one_row : ∀ {a b : List Int}, a.length = b.length → (∀ (i : Nat) (h1 : i < a.length) (h2 : i < b.length), a[i] ≤ b[i]) → isum b = isum a + 1 → ∃ r, r < a.length ∧ ∀ (j : Nat) (h1 : j < a.length) (h2 : j < b.length), b[j] = a[j] + if j = r then 1 else 0
  | [], [], _, _, h => by simp [isum] at h
  | [], _ :: _, h, _, _ => by simp at h
  | _ :: _, [], h, _, _ => by simp at h
  | x :: a, y :: b, h, hi, hs => by
    have h0 := hi 0 (by simp) (by simp)
    have hi' : ∀ (i : Nat) (h1 : i < a.length) (h2 : i < b.length), a[i] ≤ b[i] := fun i h1 h2 => by have := hi (i + 1) (by simpa using h1) (by simpa using h2); simpa using this
    obtain ⟨h1, h2⟩ := isum_ext (a := a) (b := b) (by simpa using h) hi'
    simp only [List.getElem_cons_zero] at h0
    simp only [isum] at hs
    by_cases e : x = y
    · obtain ⟨r, hr, hh⟩ := one_row (a := a) (b := b) (by simpa using h) hi' (by omega)
      refine ⟨r + 1, by simpa using hr, fun j h3 h4 => ?_⟩
      cases j with
      | zero => simp [e]
      | succ j =>
        have := hh j (by simpa using h3) (by simpa using h4)
        simp only [List.getElem_cons_succ]
        rw [this]
        congr 1
        by_cases e2 : j = r
        · rw [if_pos e2, if_pos (by omega)]
        · rw [if_neg e2, if_neg (by omega)]
    · have e3 := h2 (by omega)
      subst e3
      refine ⟨0, by simp, fun j h3 h4 => ?_⟩
      cases j with
      | zero => simp only [List.getElem_cons_zero]; rw [if_pos trivial]; omega
      | succ j => simp
theorem isum_zeros (k : Nat) : isum (List.replicate k 0) = 0 := by
  induction k with
  | zero => rfl
  | succ k ih => simp only [List.replicate_succ, isum, ih]; rfl
theorem at0_zeros (l : List Int) (k : Nat) (j : Nat) : at0 (l ++ List.replicate k 0) (j : Int) = at0 l (j : Int) := by
  by_cases h : j < l.length
  · rw [at0_nat _ j h, at0_nat _ j (by rw [List.length_append]; omega), rd_eq _ j h, rd_eq _ j (by rw [List.length_append]; omega), List.getElem_append_left]
  · rw [at0_out l _ (by omega)]
    by_cases h2 : j < (l ++ List.replicate k 0).length
    · rw [at0_nat _ j h2, rd_eq _ j h2, List.getElem_append_right (by omega)]
      simp
    · rw [at0_out _ _ (by omega)]
/-- a partition with one cell more than one inside it -/
theorem inside_one {q p : List Int} (h : isInside q p = true) (hs : isum p = isum q + 1) : ∃ r : Nat, ∀ j : Nat, at0 p (j : Int) = at0 q (j : Int) + if j = r then 1 else 0 := by
  obtain ⟨hq, hp, hl, hr⟩ := isInside_len h
  obtain ⟨q', hq'⟩ : ∃ q', q' = q ++ List.replicate (p.length - q.length) 0 := ⟨_, rfl⟩
  have hlen : q'.length = p.length := by rw [hq']; simp; omega
  have hat : ∀ j : Nat, at0 q' (j : Int) = at0 q (j : Int) := fun j => by rw [hq']; exact at0_zeros q _ j
  have hsum : isum q' = isum q := by rw [hq', isum_append, isum_zeros]; omega
  have hle : ∀ (i : Nat) (h1 : i < q'.length) (h2 : i < p.length), q'[i] ≤ p[i] := fun i h1 h2 => by
    have h3 := hat i
    rw [at0_nat _ i h1, rd_eq _ i h1] at h3
    rw [h3]
    by_cases e : i < q.length
    · rw [at0_nat _ i e]; have := hr i e; rw [rd_eq p i h2] at this; exact this
    · rw [at0_out _ _ (by omega)]
      have := ((isPartition_bd hp).2.2 _ (rd_mem p i h2)).1
      rw [rd_eq p i h2] at this
      omega
  obtain ⟨r, h1, h2⟩ := one_row hlen hle (by omega)
  refine ⟨r, fun j => ?_⟩
  rw [← hat j]
  by_cases hj : j < p.length
  · rw [at0_nat p j hj, at0_nat q' j (by omega), rd_eq p j hj, rd_eq q' j (by omega)]
    exact h2 j (by omega) hj
  · rw [at0_out p _ (by omega), at0_out q' _ (by omega), if_neg (by omega)]; rfl
theorem isumSet (l : List Int) (i : Nat) (h : i < l.length) (x : Int) : isum (l.set i x) = isum l - l[i] + x := by
  induction l generalizing i with
  | nil => simp at h
  | cons y l ih =>
    cases i with
    | zero => simp only [List.set_cons_zero, isum, List.getElem_cons_zero]; omega
    | succ i => simp only [List.set_cons_succ, isum, List.getElem_cons_succ]; rw [ih i (by simpa using h)]; omega
theorem isum_boxed (p : List Int) (r : Nat) (h : r ≤ p.length) : isum (boxed p (r : Int)) = isum p + 1 := by
  unfold boxed
  rw [Int.toNat_natCast]
  by_cases e : (r : Int) = (p.length : Int)
  · rw [if_pos e, isumSet _ r (by rw [List.length_append]; simp; omega), isum_append, rd_eq _ r (by rw [List.length_append]; simp; omega)]
    simp only [isum]
    omega
  · rw [if_neg e, isumSet _ r (by omega), rd_eq _ r (by omega)]
    omega
end
theorem chainRows_at {C : List (List Int)} (i : Nat) (hi : i < lastLen C) : rd_L1 (chainRows C C.length) (i : Int) = chainRow C C.length i := by
  rw [rows_eq _ i (by simp [chainRows]; exact hi)]
  simp [chainRows]
/-- a chain, step by step -/
structure Steps (C : List (List Int)) : Prop where
  ne : 1 ≤ C.length
  le : C.length ≤ 10
  head : isPartition (rd_L1 C 0) = true
  step : ∀ k, k < C.length → 1 ≤ k → stepOk C k
section
variable {C : List (List Int)} (S : Steps C)
include S
theorem Steps.part (k : Nat) (hk : k < C.length) : isPartition (rd_L1 C (k : Int)) = true := by
  by_cases h : k = 0
  · subst h; exact S.head
  · exact (isInside_len (S.step k hk (by omega)).1).2.1
theorem Steps.row (k : Nat) (hk : k < C.length) (h1 : 1 ≤ k) : ∃ r : Nat, (∀ j : Nat, at0 (rd_L1 C (k : Int)) (j : Int) = at0 (rd_L1 C ((k - 1 : Nat) : Int)) (j : Int) + if j = r then 1 else 0) ∧ ∀ j, grows C k j = true ↔ j = r := by
  obtain ⟨r, hr⟩ := inside_one (S.step k hk h1).1 (S.step k hk h1).2
  refine ⟨r, hr, fun j => ?_⟩
  unfold grows
  rw [decide_eq_true_eq, hr j]
  by_cases e : j = r
  · rw [if_pos e]; exact ⟨fun _ => e, fun _ => ⟨h1, by omega⟩⟩
  · rw [if_neg e]; exact ⟨fun h => by omega, fun h => absurd h e⟩
/-- how far row i reaches behind m - 1 steps -/
theorem Steps.reach (i : Nat) : ∀ m : Nat, m + 1 ≤ C.length → at0 (rd_L1 C (m : Int)) (i : Int) = at0 (rd_L1 C 0) (i : Int) + ((chainRow C (m + 1) i).length : Int)
  | 0, _ => by
    have h : grows C 0 i = false := by unfold grows; simp
    simp [chainRow, h]
  | m + 1, h => by
    have ih := Steps.reach i m (by omega)
    obtain ⟨r, h1, h2⟩ := S.row (m + 1) (by omega) (by omega)
    have h3 := h1 i
    rw [Nat.add_sub_cancel] at h3
    rw [h3, ih]
    have hc : chainRow C (m + 1 + 1) i = if grows C (m + 1) i = true then chainRow C (m + 1) i ++ [((m + 1 : Nat) : Int)] else chainRow C (m + 1) i := rfl
    rw [hc]
    by_cases e : i = r
    · rw [if_pos e, if_pos ((h2 i).2 e), List.length_append]; simp; omega
    · rw [if_neg e, if_neg (fun g => e ((h2 i).1 g))]; simp
theorem Steps.mono (i : Nat) : ∀ d m : Nat, m + d < C.length → at0 (rd_L1 C (m : Int)) (i : Int) ≤ at0 (rd_L1 C ((m + d : Nat) : Int)) (i : Int)
  | 0, m, _ => Int.le_refl _
  | d + 1, m, h => by
    obtain ⟨r, h1, _⟩ := S.row (m + d + 1) (by omega) (by omega)
    have := h1 i
    rw [Nat.add_sub_cancel] at this
    have h2 := Steps.mono i d m (by omega)
    rw [show m + (d + 1) = m + d + 1 by omega, this]
    split <;> omega
theorem Steps.outer : outerOf (rd_L1 C 0) (chainRows C C.length) = rd_L1 C ((C.length - 1 : Nat) : Int) := by
  have hne := S.ne
  have hl : (chainRows C C.length).length = lastLen C := by simp [chainRows]
  refine List.ext_getElem (by rw [outerOf_length, hl]; rfl) fun i h1 h2 => ?_
  have hi : i < lastLen C := h2
  have h3 := outerOf_rd (rd_L1 C 0) (chainRows C C.length) i (by rw [hl]; exact hi)
  rw [rd_eq _ i h1, chainRows_at i hi] at h3
  have h4 := S.reach i (C.length - 1) (by omega)
  rw [show C.length - 1 + 1 = C.length by omega, at0_nat _ i h2, rd_eq _ i h2] at h4
  rw [h3, h4]
theorem Steps.shape : hasShape (rd_L1 C 0) (chainRows C C.length) = true := by
  have hne := S.ne
  have hp := S.part (C.length - 1) (by omega)
  have hin : isInside (rd_L1 C 0) (rd_L1 C ((C.length - 1 : Nat) : Int)) = true := by
    unfold isInside
    rw [S.head, hp]
    simp only [Bool.and_self, Bool.true_and]
    refine (inside_all _ _ 0).2 (fun j hj => ?_)
    have := S.mono j (C.length - 1) 0 (by omega)
    rw [Nat.zero_add] at this
    rw [← at0_nat _ j hj]
    exact this
  unfold hasShape
  rw [S.head, S.outer, hin, decide_eq_true (by have := (isInside_len hin).2.2.1; rw [show (chainRows C C.length).length = lastLen C by simp [chainRows]]; exact this)]
  rfl
theorem Steps.len : (chainRows C C.length).flatten.length + 1 = C.length := by
  have hne := S.ne
  have h1 : ∀ d m : Nat, m + d < C.length → isum (rd_L1 C ((m + d : Nat) : Int)) = isum (rd_L1 C (m : Int)) + (d : Int) := by
    intro d
    induction d with
    | zero => intro m _; simp
    | succ d ih =>
      intro m h
      have h2 := (S.step (m + d + 1) (by omega) (by omega)).2
      rw [Nat.add_sub_cancel] at h2
      rw [show m + (d + 1) = m + d + 1 by omega, h2, ih m (by omega)]
      omega
  have h2 := h1 (C.length - 1) 0 (by omega)
  rw [Nat.zero_add, ← S.outer] at h2
  have hs := S.shape
  obtain ⟨hn, hnm, _, _, _⟩ := hasShape_bd hs
  -- the sum of the outer rows
  have h3 : ∀ (n : List Int) (m : List (List Int)), n.length ≤ m.length → isum (outerOf n m) = isum n + (m.flatten.length : Int) := by
    intro n m
    induction m generalizing n with
    | nil => intro h; have : n = [] := List.eq_nil_of_length_eq_zero (by simpa using h); subst this; simp [outerOf, isum]
    | cons r m ih =>
      intro h
      have e : outerOf n (r :: m) = (at0 n 0 + (r.length : Int)) :: outerOf n.tail m := by
        refine List.ext_getElem (by simp [outerOf]) fun i h1 h2 => ?_
        cases i with
        | zero =>
          have e0 : rd_L1 (r :: m) ((0 : Nat) : Int) = r := by rw [rows_nat]; rfl
          simp only [outerOf, reachOf, List.getElem_map, List.getElem_range, List.getElem_cons_zero]
          rw [e0]; rfl
        | succ i =>
          have hi : i < m.length := by simpa [outerOf] using h1
          simp only [List.getElem_cons_succ]
          simp only [outerOf, reachOf, List.getElem_map, List.getElem_range]
          have a1 : at0 n ((i + 1 : Nat) : Int) = at0 n.tail (i : Int) := by
            cases n with
            | nil => rw [at0_out _ _ (.inr (by simp; omega)), at0_out _ _ (.inr (by simp))]
            | cons x n =>
              by_cases hi2 : i < n.length
              · rw [at0_nat _ _ (by simpa using hi2), at0_nat _ _ (by simpa using hi2), rd_nat, rd_nat]; simp
              · rw [at0_out _ _ (by simp; omega), at0_out _ _ (by simp; omega)]
          have a2 : rd_L1 (r :: m) ((i + 1 : Nat) : Int) = rd_L1 m (i : Int) := by rw [rows_nat, rows_nat]; simp
          rw [a1, a2]
      rw [e]
      simp only [isum, List.flatten_cons, List.length_append]
      rw [ih n.tail (by rw [List.length_tail]; simp at h; omega)]
      cases n with
      | nil => simp [at0, isum]
      | cons x n =>
        rw [show at0 (x :: n) 0 = x from by have := at0_nat (x :: n) 0 (by simp); rw [rd_nat] at this; simpa using this]
        simp only [List.tail_cons, isum]
        omega
  rw [h3 _ _ hnm, show ((0 : Nat) : Int) = 0 from rfl] at h2
  omega
theorem Steps.tab : isTab (rd_L1 C 0) (chainRows C C.length) = true := by
  have hne := S.ne
  have hle := S.le
  have hl : (chainRows C C.length).length = lastLen C := by simp [chainRows]
  refine isTab_iff.2 ⟨S.shape, fun i hi q hq => ?_⟩
  rw [hl] at hi
  rw [chainRows_at i hi] at hq
  obtain ⟨e, he, hg, hx, hlen⟩ := chainRow_idx hq
  have he1 : 1 ≤ e := by unfold grows at hg; rw [decide_eq_true_eq] at hg; exact hg.1
  have hrd : rd (chainRow C C.length i) (q : Int) = (e : Int) := by rw [rd_eq _ q hq]; exact hx
  unfold CellOk
  rw [chainRows_at i hi, hrd]
  refine ⟨by omega, fun h0 => ?_, fun hi0 => ?_⟩
  · have h1 := List.pairwise_iff_getElem.1 (chainRow_sorted (C := C) C.length i) (q - 1) q (by omega) hq (by omega)
    rw [hx] at h1
    rw [rd_eq _ (q - 1) (by omega)]
    omega
  · obtain ⟨r, h1, h2⟩ := S.row e he he1
    have hir : i = r := (h2 i).1 hg
    have hc := S.reach i (e - 1) (by omega)
    rw [show e - 1 + 1 = e by omega, hlen] at hc
    have h3 := h1 i
    rw [if_pos hir] at h3
    have h4 := isPartition_anti (S.part e he) (i := i - 1) (j := i) (by omega)
    have h5 := h1 (i - 1)
    rw [if_neg (by omega)] at h5
    have h6 := S.reach (i - 1) (e - 1) (by omega)
    rw [show e - 1 + 1 = e by omega] at h6
    unfold entryOf
    rw [if_pos (by rw [hl]; omega)]
    rw [chainRows_at (i - 1) (by omega)]
    by_cases hneg : at0 (rd_L1 C 0) (i : Int) + (q : Int) < at0 (rd_L1 C 0) ((i - 1 : Nat) : Int)
    · rw [at0_out _ _ (by omega)]; omega
    · obtain ⟨s, hs⟩ : ∃ s : Nat, at0 (rd_L1 C 0) (i : Int) + (q : Int) - at0 (rd_L1 C 0) ((i - 1 : Nat) : Int) = (s : Int) := ⟨(at0 (rd_L1 C 0) (i : Int) + (q : Int) - at0 (rd_L1 C 0) ((i - 1 : Nat) : Int)).toNat, by omega⟩
      rw [hs]
      have hs2 : s < (chainRow C e (i - 1)).length := by omega
      obtain ⟨t, ht⟩ := chainRow_pre (C := C) e (C.length - e) (i - 1)
      rw [show e + (C.length - e) = C.length by omega] at ht
      have hs3 : s < (chainRow C C.length (i - 1)).length := by rw [ht, List.length_append]; omega
      rw [at0_nat _ s hs3, rd_eq _ s hs3]
      have h7 : (chainRow C C.length (i - 1))[s] ∈ chainRow C e (i - 1) := by
        have : (chainRow C C.length (i - 1))[s] = (chainRow C e (i - 1))[s] := by
          have h8 : (chainRow C C.length (i - 1))[s]? = (chainRow C e (i - 1))[s]? := by rw [ht, List.getElem?_append_left hs2]
          rw [List.getElem?_eq_getElem hs3, List.getElem?_eq_getElem hs2] at h8
          exact Option.some.inj h8
        rw [this]; exact List.getElem_mem hs2
      obtain ⟨k, hk1, hk2, _⟩ := chainRow_mem.1 h7
      rw [hk2]; omega
theorem Steps.std : isStd (rd_L1 C 0) (chainRows C C.length) = true := by
  have hlen := S.len
  unfold isStd
  rw [S.tab, Bool.true_and]
  refine areOnce_iff.2 (fun v h1 h2 => ?_)
  obtain ⟨r, h3, h4⟩ := S.row v (by omega) h1
  have hg := (h4 r).2 rfl
  have h5 := h3 r
  rw [if_pos rfl] at h5
  have h6 := (at0_bd (S.part (v - 1) (by omega)) (r : Int)).1
  have h7 := S.mono r (C.length - 1 - v) v (by omega)
  rw [show v + (C.length - 1 - v) = C.length - 1 by omega] at h7
  have hr : r < lastLen C := by
    rcases Nat.lt_or_ge r (lastLen C) with h | h
    · exact h
    · rw [at0_out (rd_L1 C ((C.length - 1 : Nat) : Int)) (r : Int) (by unfold lastLen at h; omega)] at h7
      omega
  exact List.mem_flatten.2 ⟨chainRow C C.length r, List.mem_map.2 ⟨r, List.mem_range.2 hr, rfl⟩, chainRow_mem.2 ⟨v, by omega, rfl, hg⟩⟩
theorem Steps.chain : chainOf (rd_L1 C 0) (chainRows C C.length) = C := by
  have hne := S.ne
  have hlen := S.len
  have hl : (chainRows C C.length).length = lastLen C := by simp [chainRows]
  unfold chainOf
  rw [if_pos S.std, hlen]
  refine List.ext_getElem (by simp) fun k h1 h2 => ?_
  simp only [List.getElem_map, List.getElem_range]
  rw [← rows_eq C k h2]
  refine part_ext (level_part S.tab (k : Int)) (S.part k h2) (fun j => ?_)
  rw [at0_trimZ]
  have hre := S.reach j k (by omega)
  by_cases hj : j < lastLen C
  · rw [at0_nat _ j (by rw [levelRow_length, hl]; exact hj), levelRow_rd _ _ _ j (by rw [hl]; exact hj), hre]
    unfold level
    rw [chainRows_at j hj]
    congr 2
    obtain ⟨t, ht⟩ := chainRow_pre (C := C) (k + 1) (C.length - (k + 1)) j
    rw [show k + 1 + (C.length - (k + 1)) = C.length by omega] at ht
    have hsrt := chainRow_sorted (C := C) C.length j
    rw [ht] at hsrt ⊢
    have e1 : cntLe (chainRow C (k + 1) j) (k : Int) = (chainRow C (k + 1) j).length := by
      unfold cntLe
      rw [List.filter_eq_self.2 (fun x hx => by obtain ⟨q, q1, q2, _⟩ := chainRow_mem.1 hx; simp only [decide_eq_true_eq]; omega)]
    have e2 : cntLe t (k : Int) = 0 := by
      unfold cntLe
      rw [List.length_eq_zero_iff, List.filter_eq_nil_iff]
      intro x hx
      have hm : x ∈ chainRow C C.length j := by rw [ht]; exact List.mem_append_right _ hx
      obtain ⟨q, q1, q2, q3⟩ := chainRow_mem.1 hm
      simp only [decide_eq_true_eq]
      intro hle
      have hm2 : x ∈ chainRow C (k + 1) j := chainRow_mem.2 ⟨q, by omega, q2, q3⟩
      have := (List.pairwise_append.1 hsrt).2.2 x hm2 x hx
      omega
    have e3 : cntLe (chainRow C (k + 1) j ++ t) (k : Int) = cntLe (chainRow C (k + 1) j) (k : Int) + cntLe t (k : Int) := by unfold cntLe; rw [List.filter_append, List.length_append]
    rw [e3, e1, e2]
    rfl
  · rw [at0_out _ _ (by rw [levelRow_length, hl]; omega)]
    have h7 := S.mono j (C.length - 1 - k) k (by omega)
    rw [show k + (C.length - 1 - k) = C.length - 1 by omega, at0_out (rd_L1 C ((C.length - 1 : Nat) : Int)) (j : Int) (by unfold lastLen at hj; omega)] at h7
    have := (at0_bd (S.part k h2) (j : Int)).1
    omega
end
/-- a tableau whose chain is given has such steps -/
theorem steps_of {C : List (List Int)} {m : List (List Int)} (h1 : 1 ≤ C.length) (h2 : C.length ≤ 10) (hs : isStd (rd_L1 C 0) m = true) (hc : chainOf (rd_L1 C 0) m = C) : Steps C := by
  have ht : isTab (rd_L1 C 0) m = true := by unfold isStd at hs; rw [Bool.and_eq_true] at hs; exact hs.1
  have hn := (hasShape_bd (isTab_iff.1 ht).1).1
  have hc2 := hc
  unfold chainOf at hc2
  rw [if_pos hs] at hc2
  have hlen : m.flatten.length + 1 = C.length := by rw [← hc2]; simp
  have hk : ∀ k : Nat, k < C.length → rd_L1 C (k : Int) = trimZ (levelRow (rd_L1 C 0) m (k : Int)) := fun k hk => by
    have h3 : C[k]? = some (trimZ (levelRow (rd_L1 C 0) m (k : Int))) := by
      conv => lhs; rw [← hc2]
      rw [List.getElem?_map, List.getElem?_range (by omega)]
      rfl
    rw [rows_eq C k hk]
    rw [List.getElem?_eq_getElem hk] at h3
    exact Option.some.inj h3
  refine ⟨h1, h2, hn, fun k hkl hk1 => ?_⟩
  have hst := chain_step hs k hk1 (by omega)
  have e1 := hk (k - 1) (by omega)
  rw [show ((k - 1 : Nat) : Int) = (k : Int) - 1 by omega] at e1
  have e2 := hk k hkl
  rw [← e1, ← e2] at hst
  have hst2 : (addBox (rd_L1 C ((k : Int) - 1)) (rowOf (rd_L1 C 0) m (k : Int))).2 = true := by rw [hst]
  obtain ⟨⟨b1, b2, b3⟩, b4, b5⟩ := addBox_fst hst2
  rw [hst] at b5
  obtain ⟨r, hr⟩ : ∃ r : Nat, rowOf (rd_L1 C 0) m (k : Int) = (r : Int) := ⟨(rowOf (rd_L1 C 0) m (k : Int)).toNat, by omega⟩
  rw [hr] at b3 b4 b5
  have hb5 : rd_L1 C (k : Int) = boxed (rd_L1 C ((k : Int) - 1)) (r : Int) := b5
  unfold stepOk
  rw [show ((k - 1 : Nat) : Int) = (k : Int) - 1 by omega, hb5]
  refine ⟨?_, isum_boxed _ r (by omega)⟩
  unfold isInside
  rw [b1, b4]
  simp only [Bool.and_self, Bool.true_and]
  refine (inside_all _ _ 0).2 (fun j hj => ?_)
  rw [boxed_at _ r (by omega) j, at0_nat _ j hj]
  split <;> omega
theorem tabChain_iff {C : List (List Int)} (h1 : 1 ≤ C.length) (h2 : C.length ≤ 10) : (isStd (rd_L1 C 0) (chainRows C C.length) = true ∧ chainOf (rd_L1 C 0) (chainRows C C.length) = C) ↔ (isPartition (rd_L1 C 0) = true ∧ chainOk C 1 = true) := by
  constructor
  · rintro ⟨h3, h4⟩
    have S := steps_of h1 h2 h3 h4
    exact ⟨S.head, decide_eq_true (fun k hk hk1 => S.step k hk hk1)⟩
  · rintro ⟨h3, h4⟩
    have S : Steps C := ⟨h1, h2, h3, fun k hk hk1 => (of_decide_eq_true h4) k hk hk1⟩
    exact ⟨S.std, S.chain⟩
end Go.Proofs.Ytdcdndfgdmcomaa.Q

set_option linter.unusedVariables false
set_option linter.unusedSimpArgs false
namespace Go.Proofs.Ytdcdndfgdmcomaa.Q
open Go.RowKit Go.Proofs.Ytdcdndfgdmcomaa.F Go.Proofs.YtdcdndfgdmcomaaW.PrintWords Go.Proofs.YtdcdndfgdmcomaaW.PrintLast Go.Proofs.YtdcdndfgdmcomaaW.PrintMore
section
variable {w W w1 : World} {L : List Ob}
/-- the first objects are done anew, out of their blocks and new ones -/
theorem St.redo {P P' : List Ob} (h : St w W (P ++ L)) (hK : Kept W w1 (fun k => ∃ p ∈ P, p.ok k)) (hB : Below w.heap.size w w1)
    (hP : ∀ o ∈ P', (∀ k, o.ok k → ((∃ p ∈ P, p.ok k) ∨ W.heap.size ≤ k) ∧ w.heap.size ≤ k ∧ k < w1.heap.size) ∧ o.P w1 ∧ Firm o) (ha : P'.Pairwise (fun a b => ∀ k, a.ok k → ¬ b.ok k)) : St w w1 (P' ++ L) := by
  obtain ⟨_, hL, hPL⟩ := List.pairwise_append.1 h.apart
  refine ⟨hB, fun o ho => ?_, List.pairwise_append.2 ⟨ha, hL, fun a haP b hb k hak hbk => ?_⟩⟩
  · rcases List.mem_append.1 ho with ho | ho
    · obtain ⟨h1, h2, h3⟩ := hP o ho
      exact ⟨fun k hk => (h1 k hk).2, h2, h3⟩
    · obtain ⟨h1, h2, h3⟩ := h.own o (List.mem_append_right _ ho)
      exact ⟨fun k hk => ⟨(h1 k hk).1, Nat.lt_of_lt_of_le (h1 k hk).2 hK.1⟩, h3 W w1 h2 (fun k hk hlt => hK.2 k hlt (fun ⟨p, hp, hpk⟩ => hPL p hp o ho k hpk hk)), h3⟩
  · rcases ((hP a haP).1 k hak).1 with ⟨p, hp, hpk⟩ | hnew
    · exact hPL p hp b hb k hpk hbk
    · have := ((h.own b (List.mem_append_right _ hb)).1 k hbk).2
      omega
theorem St.perm_ {L' : List Ob} (h : St w W L) (hp : List.Perm L L') : St w W L' :=
  ⟨h.below, fun o ho => h.own o (hp.mem_iff.2 ho), (hp.pairwise_iff (fun hab k hb ha => hab k ha hb)).1 h.apart⟩
/-- an object is given up -/
theorem St.drop_ {o : Ob} (h : St w W (o :: L)) : St w W L := ⟨h.below, fun p hp => h.own p (List.mem_cons_of_mem _ hp), (List.pairwise_cons.1 h.apart).2⟩
theorem St.less {L' : List Ob} (h : St w W L) (hs : List.Sublist L' L) : St w W L' := ⟨h.below, fun p hp => h.own p (hs.subset hp), h.apart.sublist hs⟩
theorem St.size_le (h : St w W L) : w.heap.size ≤ W.heap.size := h.below.size
end
/-- in place: one object is done anew, out of its blocks and new ones -/
theorem St.redo1 {w W w1 : World} {L : List Ob} {o o' : Ob} (h : St w W L) (n : Nat) (hn : L[n]? = some o) (hK : Kept W w1 o.ok) (hB : Below w.heap.size w w1)
    (hP : (∀ k, o'.ok k → (o.ok k ∨ W.heap.size ≤ k) ∧ w.heap.size ≤ k ∧ k < w1.heap.size) ∧ o'.P w1 ∧ Firm o') : St w w1 (L.set n o') := by
  obtain ⟨hnl, hno⟩ := List.getElem?_eq_some_iff.1 hn
  have e0 : L = L.take n ++ o :: L.drop (n + 1) := by rw [← hno, ← List.drop_eq_getElem_cons hnl, List.take_append_drop]
  have e1 : List.Perm L ([o] ++ (L.take n ++ L.drop (n + 1))) := by
    have := List.perm_middle (a := o) (l₁ := L.take n) (l₂ := L.drop (n + 1))
    rwa [← e0] at this
  have e2 : List.Perm ([o'] ++ (L.take n ++ L.drop (n + 1))) (L.set n o') := by
    rw [List.set_eq_take_append_cons_drop, if_pos hnl]
    exact (List.perm_middle (a := o') (l₁ := L.take n) (l₂ := L.drop (n + 1))).symm
  refine St.perm_ (St.redo (St.perm_ h e1) (w1 := w1) (P' := [o']) ⟨hK.1, fun k hk hp => hK.2 k hk (fun ho => hp ⟨o, by simp, ho⟩)⟩ hB ?_ (List.pairwise_singleton _ _)) e2
  intro q hq
  obtain rfl := List.mem_singleton.1 hq
  exact ⟨fun k hk => ⟨(hP.1 k hk).1.imp (fun h1 => ⟨o, by simp, h1⟩) id, (hP.1 k hk).2⟩, hP.2⟩
section
variable {ops : Array Oper} {rest : List Oper} {oi : Oper} {a : Act} {Q : Exit → Act → World → Prop} {Kc : Act → World → Prop} {w W : World} {L : List Ob} {α : Type} {d : Kd α} {o0 : Ob} {ok : Nat → Prop} {v : Value} {xs : List α} {p : α} {cs : List Value} {e t : Nat}
theorem St.pushed {w1 : World} {v1 : Value} (h : St w W (o0 :: obS d e w ok v xs :: L)) (hS : Kd.S d e w1 w.heap.size (fun k => (ok k ∨ o0.ok k) ∨ W.heap.size ≤ k) v1 (xs ++ [p])) (hB : Below w.heap.size w w1) (hg : W.grownBy w1 v.ownBlock) : ∃ ok1, St w w1 (obS d e w ok1 v1 (xs ++ [p]) :: L) := by
  have hv := (Kd.S_R (show Kd.S d e W w.heap.size ok v xs from h.get 1 rfl)).1
  refine ⟨fun k => ((ok k ∨ o0.ok k) ∨ W.heap.size ≤ k) ∧ w.heap.size ≤ k ∧ k < w1.heap.size, St.redo (P := [o0, obS d e w ok v xs]) (P' := [obS d e w _ v1 (xs ++ [p])]) h ⟨hg.size, fun k hk hn => hg.block k hk (fun e2 => hn ⟨obS d e w ok v xs, by simp, hv k e2.symm⟩)⟩ hB ?_ (List.pairwise_singleton _ _)⟩
  intro q hq
  obtain rfl := List.mem_singleton.1 hq
  refine ⟨fun k hk => ⟨?_, hk.2⟩, Kd.S_mono (Kd.S_bound hS) (fun k hk => ⟨hk.1, hk.2.1, hk.2.2.1⟩), firmS⟩
  rcases hk.1 with (h1 | h1) | h1
  · exact .inl ⟨obS d e w ok v xs, by simp, h1⟩
  · exact .inl ⟨o0, by simp, h1⟩
  · exact .inr h1
/-- append(v, row): the row is the list's from here on -/
theorem St.push (hgd : oi.guard = none) (s x : Operand) (ho : oi.op = .call { callee := .builtin .append, args := #[s, x], argTypes := #[t, t] }) (ht : (Try.prog).underlying t = some (.slice e)) (z : Value) (bytes : Nat) (hinfo : ((Try.prog).info? e).map (fun i => (i.zero, i.size, i.bytes)) = some (some z, d.sz, bytes)) (hz : z.cells.size = d.sz) (hs0 : 0 < d.sz) (hb0 : 0 < bytes)
    (h : St w W (o0 :: obS d e w ok v xs :: L)) (hs : a.eval s = v) (hx : a.eval x = .slice (some ⟨W.heap.size, 0, none⟩) 1 1) (hM : d.M W w.heap.size o0.ok p cs) (hl : (xs.length + 1) * bytes ≤ 140737488355328)
    (hk : ∀ v1 w1 ok1, St w w1 (obS d e w ok1 v1 (xs ++ [p]) :: L) → wpList Try.prog ops Q rest (a.put oi.dst v1) w1) :
    wpList Try.prog ops Q (oi :: rest) a (W.alloc (.cells cs.toArray e)) := by
  have hap : ∀ k, o0.ok k → ¬ ok k := (List.pairwise_cons.1 h.apart).1 (obS d e w ok v xs) (by simp)
  have hS : Kd.S d e W w.heap.size ok v xs := h.get 1 rfl
  have hlt : ∀ k, ok k → k < W.heap.size := fun k hk => ((h.own (obS d e w ok v xs) (by simp)).1 k hk).2
  have hlt0 : ∀ k, o0.ok k → k < W.heap.size := fun k hk => ((h.own o0 (by simp)).1 k hk).2
  refine Kd.S_append d (w0 := w) w.heap.size hgd s x t e z bytes ho ht hinfo hz hs0 hb0 v xs p cs (fun k => (ok k ∨ o0.ok k) ∨ W.heap.size ≤ k) o0.ok hs hx hM (fun k hk => ⟨.inl (.inr hk), fun e2 => hap k hk ((Kd.S_R hS).1 k e2.symm)⟩) (fun k hk => .inr hk) (Kd.S_mono hS (fun k hk => ⟨.inl (.inl hk), fun h2 => hap k h2 hk⟩)) h.below h.below.size hl ?_
  intro v1 w1 hS1 hB hg _
  obtain ⟨ok1, h1⟩ := St.pushed h hS1 hB hg
  exact hk v1 w1 ok1 h1
/-- the same as a step of a region that draws -/
theorem St.push_step (hw : Region.wanted oi (yielded ops a.tmps) = true) (s x : Operand) (ho : oi.op = .call { callee := .builtin .append, args := #[s, x], argTypes := #[t, t] }) (ht : (Try.prog).underlying t = some (.slice e)) (z : Value) (bytes : Nat) (hinfo : ((Try.prog).info? e).map (fun i => (i.zero, i.size, i.bytes)) = some (some z, d.sz, bytes)) (hz : z.cells.size = d.sz) (hs0 : 0 < d.sz) (hb0 : 0 < bytes)
    (h : St w W (o0 :: obS d e w ok v xs :: L)) (hs : a.eval s = v) (hx : a.eval x = .slice (some ⟨W.heap.size, 0, none⟩) 1 1) (hM : d.M W w.heap.size o0.ok p cs) (hl : (xs.length + 1) * bytes ≤ 140737488355328)
    (hk : ∀ v1 w1 ok1, St w w1 (obS d e w ok1 v1 (xs ++ [p]) :: L) → Kc (a.put oi.dst v1) w1) :
    if Region.wanted oi (yielded ops a.tmps) = true then Oper.wp Try.prog oi a (W.alloc (.cells cs.toArray e)) Kc Q else Kc (a.put oi.dst undef) (W.alloc (.cells cs.toArray e)) := by
  have hap : ∀ k, o0.ok k → ¬ ok k := (List.pairwise_cons.1 h.apart).1 (obS d e w ok v xs) (by simp)
  have hS : Kd.S d e W w.heap.size ok v xs := h.get 1 rfl
  refine Kd.S_append_step d (w0 := w) w.heap.size hw s x t e z bytes ho ht hinfo hz hs0 hb0 v xs p cs (fun k => (ok k ∨ o0.ok k) ∨ W.heap.size ≤ k) o0.ok hs hx hM (fun k hk => ⟨.inl (.inr hk), fun e2 => hap k hk ((Kd.S_R hS).1 k e2.symm)⟩) (fun k hk => .inr hk) (Kd.S_mono hS (fun k hk => ⟨.inl (.inl hk), fun h2 => hap k h2 hk⟩)) h.below h.below.size hl ?_
  intro v1 w1 hS1 hB hg _
  obtain ⟨ok1, h1⟩ := St.pushed h hS1 hB hg
  exact hk v1 w1 ok1 h1
/-- append(v, x) of a whole number -/
theorem St.put1 {xs : List Int} {x : Int} {bb c : Nat} (hgd : oi.guard = none) (s y : Operand) (ho : oi.op = .call { callee := .builtin .append, args := #[s, y], argTypes := #[24, 24] })
    (h : St w W L) (n : Nat) (hn : L[n]? = some (obR (Kd.int .i64) 3 w ok v xs)) (hs : a.eval s = v) (hx : a.eval y = .slice (some ⟨W.heap.size, 0, none⟩) 1 1) (hl : (xs.length + 1) * 8 ≤ 140737488355328)
    (hk : ∀ v1 w1 ok1, St w w1 (L.set n (obR (Kd.int .i64) 3 w ok1 v1 (xs ++ [x]))) → wpList Try.prog ops Q rest (a.put oi.dst v1) w1) :
    wpList Try.prog ops Q (oi :: rest) a (W.alloc (.cells #[.int .i64 x] 3)) := by
  have hR : Kd.R (Kd.int .i64) 3 W w.heap.size ok v xs := h.get n hn
  refine Kd.R_append (Kd.int .i64) (w0 := w) w.heap.size hgd s y 24 3 (.int .i64 0) 8 ho Try.underlying24 info3 rfl (by decide) (by omega) v xs x [.int .i64 x] (fun k => ok k ∨ W.heap.size ≤ k) (fun _ => False) hs hx rfl (fun _ h => h.elim) (fun _ h => .inr h) (Kd.R_mono hR (fun k hk => .inl hk)) h.below h.below.size hl ?_
  intro v1 w1 hR1 hB hg _
  exact hk v1 w1 _ (St.redo1 (o' := obR (Kd.int .i64) 3 w (fun k => (ok k ∨ W.heap.size ≤ k) ∧ w.heap.size ≤ k ∧ k < w1.heap.size) v1 (xs ++ [x])) h n hn ⟨hg.size, fun k hk hne => hg.block k hk (fun e2 => hne (hR.1 k e2.symm))⟩ hB ⟨fun k hk => hk, Kd.R_mono (Kd.R_bound hR1) (fun k hk => ⟨hk.1, hk.2.1, hk.2.2.1⟩), firmR⟩)
end
section
variable {w W : World} {L : List Ob} {ok : Nat → Prop} {v : Value} {xs : List (List Int)}
/-- a row of a list, lent: where it lies, and what the list is once the row is a part of itself or a number in it is another -/
theorem St.lendS (h : St w W L) (n : Nat) (hn : L[n]? = some (obS (Kd.slice 3 (Kd.int .i64)) 24 w ok v xs)) (i : Nat) (hi : i < xs.length) {r : List Int} (hr : xs[i] = r) :
    ∃ g c A1 c1, v = .slice (some ⟨g, 0, none⟩) xs.length c ∧ w.heap.size ≤ g ∧ W.cell? ⟨g, i, none⟩ = some (.slice A1 r.length c1) ∧ W.frozen? ⟨g, i, none⟩ = false ∧ r.length ≤ c1 ∧ Reads (Kd.int .i64) W (.slice A1 r.length c1) r ∧
      (0 < r.length → ∃ g1, A1 = some ⟨g1, 0, none⟩ ∧ w.heap.size ≤ g1) ∧
      (∀ j g1, j < r.length → A1 = some ⟨g1, 0, none⟩ → W.cell? ⟨g1, j, none⟩ = some (.int .i64 (rd r (j : Int))) ∧ W.frozen? ⟨g1, j, none⟩ = false ∧ ∀ x : Int, St w (W.setCell ⟨g1, j, none⟩ (.int .i64 x)) (L.set n (obS (Kd.slice 3 (Kd.int .i64)) 24 w ok v (xs.set i (r.set j x))))) ∧
      (∀ m, m ≤ r.length → St w (W.setCell ⟨g, i, none⟩ (.slice A1 m c1)) (L.set n (obS (Kd.slice 3 (Kd.int .i64)) 24 w ok v (xs.set i (r.take m))))) := by
  subst hr
  have hS : Kd.S (Kd.slice 3 (Kd.int .i64)) 24 W w.heap.size ok v xs := h.get n hn
  have hw := (h.own _ (List.mem_of_getElem? hn)).1
  obtain ⟨A, c, rfl⟩ := Kd.R_slice (Kd.S_R hS)
  obtain ⟨g, c', e0, _⟩ := Kd.R_form (Kd.S_R hS) (by omega)
  injection e0 with ea _ _
  subst ea
  have hgok : ok g := (Kd.S_R hS).1 g (by simp [Value.ownBlock])
  have hgb : w.heap.size ≤ g := Kd.R_base (Kd.S_R hS) g (by simp [Value.ownBlock])
  obtain ⟨oki, cs, hcl, hM, hcc, hfr, hoki, hH⟩ := Kd.S_elem hS [] (i : Int) (by omega) (by omega)
  have ex : xs.getD (i : Int).toNat [] = xs[i] := by rw [Int.toNat_natCast, List.getD_eq_getElem?_getD, List.getElem?_eq_getElem hi]; rfl
  rw [ex] at hM
  obtain ⟨u, rfl, hR⟩ := hM
  obtain ⟨A1, c1, hu, hle, hC1⟩ := Kd.R_reads hR
  subst hu
  have ei : (i : Int).toNat * (Kd.slice 3 (Kd.int .i64)).sz + 0 = i := by show (i : Int).toNat * 1 + 0 = i; omega
  have hx1 := hcc 0 _ rfl
  have hf1 := hfr 0
  rw [ei] at hx1 hf1
  refine ⟨g, c, A1, c1, rfl, hgb, hx1, hf1, hle, ⟨A1, c1, rfl, hle, hC1⟩, fun hp => ?_, fun j g1 hj hA => ?_, fun m hm => ?_⟩
  · obtain ⟨g1, c2, e2, gb2, _⟩ := Kd.R_form hR (by omega)
    injection e2 with ea _ _
    exact ⟨g1, ea, gb2⟩
  · subst hA
    obtain ⟨hy, hz⟩ := Kd.R_celln 0 hR (j : Int) (by omega) (by omega)
    rw [Int.toNat_natCast] at hy hz
    refine ⟨hy, hz, fun x => ?_⟩
    have hg1 : oki g1 := hR.1 g1 (by simp [Value.ownBlock])
    have hb1 : w.heap.size ≤ g1 := Kd.R_base hR g1 (by simp [Value.ownBlock])
    have hP := Kd.R_putg hR (j : Int) x
    rw [Int.toNat_natCast] at hP
    have h1 := Kd.H_back (Kd.H_step hH (fun k _ hn' hlt => hP.2.block k hlt (fun e => hn' (by cases e; exact hg1)))) (x' := xs[i].set j x) (okp := oki) ⟨_, rfl, hP.1⟩ (fun _ h => h)
    rw [Int.toNat_natCast] at h1
    refine St.redo1 (o' := obS _ _ w ok _ _) h n hn ⟨hP.2.size, fun k hk hne => hP.2.block k hk (fun e => hne (by cases e; exact (hoki g1 hg1).1))⟩ (below_set h.below hb1) ⟨fun k hk => ⟨.inl hk, (hw k hk).1, Nat.lt_of_lt_of_le (hw k hk).2 hP.2.size⟩, h1, firmS⟩
  · have h2 := Kd.S_seg0 hH (show (0 : Int) ≤ (i : Int) by omega) (show (i : Int) < (xs.length : Int) by omega) (seg := [.slice A1 m c1]) (j := 0) (show 1 ≤ 1 from by decide) (x' := xs[i].take m) (okp := oki) ⟨.slice A1 m c1, rfl, Kd.R_take hR hm⟩ (fun _ h => h)
    rw [ei, Int.toNat_natCast] at h2
    refine St.redo1 (o' := obS _ _ w ok _ _) h n hn ⟨h2.2.size, fun k hk hne => h2.2.block k hk (fun e => hne (by cases e; exact hgok))⟩ (below_set h.below hgb) ⟨fun k hk => ⟨.inl hk, (hw k hk).1, Nat.lt_of_lt_of_le (hw k hk).2 h2.2.size⟩, h2.1, firmS⟩
end
section
variable {ops : Array Oper} {rest : List Oper} {oi : Oper} {a : Act} {Q : Exit → Act → World → Prop} {w W : World} {L : List Ob} {ok : Nat → Prop} {v : Value} {xs : List (List Int)}
/-- append(rows[i], x), ahead of the store into rows[i] -/
theorem St.growRow (hgd : oi.guard = none) (s y : Operand) (ho : oi.op = .call { callee := .builtin .append, args := #[s, y], argTypes := #[24, 24] }) {x : Int}
    (h : St w W L) (n : Nat) (hn : L[n]? = some (obS (Kd.slice 3 (Kd.int .i64)) 24 w ok v xs)) (i : Nat) (hi : i < xs.length) {r : List Int} (hr : xs[i] = r) {g c c1 : Nat} {A1 : Option Addr} (hv : v = .slice (some ⟨g, 0, none⟩) xs.length c) (hc : W.cell? ⟨g, i, none⟩ = some (.slice A1 r.length c1))
    (hs : a.eval s = .slice A1 r.length c1) (hx : a.eval y = .slice (some ⟨W.heap.size, 0, none⟩) 1 1) (hl : (r.length + 1) * 8 ≤ 140737488355328)
    (hk : ∀ A2 c2 w1, w1.cell? ⟨g, i, none⟩ = some (.slice A1 r.length c1) → w1.frozen? ⟨g, i, none⟩ = false → (∃ ok2, St w (w1.setCell ⟨g, i, none⟩ (.slice A2 (r.length + 1) c2)) (L.set n (obS (Kd.slice 3 (Kd.int .i64)) 24 w ok2 v (xs.set i (r ++ [x]))))) → wpList Try.prog ops Q rest (a.put oi.dst (.slice A2 (r.length + 1) c2)) w1) :
    wpList Try.prog ops Q (oi :: rest) a (W.alloc (.cells #[.int .i64 x] 3)) := by
  subst hv hr
  have hS : Kd.S (Kd.slice 3 (Kd.int .i64)) 24 W w.heap.size ok (.slice (some ⟨g, 0, none⟩) xs.length c) xs := h.get n hn
  have hw := (h.own _ (List.mem_of_getElem? hn)).1
  have hgok : ok g := (Kd.S_R hS).1 g (by simp [Value.ownBlock])
  have hgb : w.heap.size ≤ g := Kd.R_base (Kd.S_R hS) g (by simp [Value.ownBlock])
  obtain ⟨oki, cs, hcl, hM, hcc, hfr, hoki, hH⟩ := Kd.S_elem hS [] (i : Int) (by omega) (by omega)
  have ex : xs.getD (i : Int).toNat [] = xs[i] := by rw [Int.toNat_natCast, List.getD_eq_getElem?_getD, List.getElem?_eq_getElem hi]; rfl
  rw [ex] at hM
  obtain ⟨u, rfl, hR⟩ := hM
  have ei : (i : Int).toNat * (Kd.slice 3 (Kd.int .i64)).sz + 0 = i := by show (i : Int).toNat * 1 + 0 = i; omega
  have hx1 := hcc 0 _ rfl
  rw [ei, hc] at hx1
  injection hx1 with hx1
  subst hx1
  refine Kd.R_append (Kd.int .i64) (w0 := w) w.heap.size hgd s y 24 3 (.int .i64 0) 8 ho Try.underlying24 info3 rfl (by decide) (by omega) (.slice A1 xs[i].length c1) xs[i] x [.int .i64 x] (fun k => oki k ∨ W.heap.size ≤ k) (fun _ => False) hs hx rfl (fun _ h => h.elim) (fun _ h => .inr h) (Kd.R_mono hR (fun k hk => .inl hk)) h.below h.below.size hl ?_
  intro v1 w1 hR1 hB hg hat
  obtain ⟨A2, c2, e2⟩ := Kd.R_slice hR1
  subst e2
  have hne : some g ≠ (Value.slice A1 xs[i].length c1).ownBlock := fun e => (hoki g (hR.1 g e.symm)).2 rfl
  have hH1 : Kd.H (Kd.slice 3 (Kd.int .i64)) 24 w1 w.heap.size (fun k => ok k ∨ W.heap.size ≤ k) (.slice (some ⟨g, 0, none⟩) xs.length c) xs (i : Int) (fun k => oki k ∨ (ok k ∨ W.heap.size ≤ k) ∧ W.heap.size ≤ k) [.slice A1 xs[i].length c1] := by
    have := Kd.H_widen (Kd.H_mono hH (fun k hk => (.inl hk : ok k ∨ W.heap.size ≤ k)))
    have h3 := Kd.H_grown this hg (fun k e => .inl (hR.1 k e))
    exact h3
  obtain ⟨hc7, hf7⟩ := Kd.H_at hH1 (show (0 : Int) ≤ (i : Int) by omega) (show (i : Int) < (xs.length : Int) by omega)
  have hx7 := hc7 0 _ rfl
  have hy7 := hf7 0
  rw [ei] at hx7 hy7
  rw [show (xs[i] ++ [x]).length = xs[i].length + 1 by simp] at hR1 ⊢
  refine hk A2 c2 w1 hx7 hy7 ⟨fun k => (ok k ∨ W.heap.size ≤ k) ∧ w.heap.size ≤ k ∧ k < w1.heap.size, ?_⟩
  have h2 := Kd.S_seg0 hH1 (show (0 : Int) ≤ (i : Int) by omega) (show (i : Int) < (xs.length : Int) by omega) (seg := [.slice A2 (xs[i].length + 1) c2]) (j := 0) (show 1 ≤ 1 from by decide) (x' := xs[i] ++ [x]) (okp := fun k => oki k ∨ W.heap.size ≤ k) ⟨.slice A2 (xs[i].length + 1) c2, rfl, hR1⟩ (fun k hk => hk.imp id (fun h => ⟨.inr h, h⟩))
  rw [ei, Int.toNat_natCast] at h2
  have hz := hg.size
  refine St.redo1 (o' := obS _ _ w _ _ _) h n hn ⟨Nat.le_trans hg.size h2.2.size, fun k hk hne => ?_⟩ (below_set hB hgb) ⟨fun k hk => ⟨hk.1, hk.2.1, Nat.lt_of_lt_of_le hk.2.2 h2.2.size⟩, Kd.S_mono (Kd.S_bound h2.1) (fun k hk => ⟨hk.1, hk.2.1, ?_⟩), firmS⟩
  · exact (h2.2.block k (Nat.lt_of_lt_of_le hk hz) (fun e => hne (by cases e; exact hgok))).trans (hg.block k hk (fun e => hne (hoki k (hR.1 k e.symm)).1))
  · have := hk.2.2.1
    have e3 : (w1.setCell ⟨g, i, none⟩ (.slice A2 (xs[i].length + 1) c2)).heap.size = w1.heap.size := by simp [World.setCell]
    have e4 : (w1.setCells g i [.slice A2 (xs[i].length + 1) c2]).heap.size = w1.heap.size := e3
    omega
end
section
variable {ops : Array Oper} {rest : List Oper} {oi : Oper} {a : Act} {Q : Exit → Act → World → Prop} {w W : World} {L : List Ob}
/-- make([]int, z) -/
theorem St.make0 {N : Tmp} (hgd : oi.guard = none) (hd : oi.dst = some N) (x y : Operand) (ho : oi.op = .makeSlice 24 x y) (z : Nat) (hx : a.eval x = .int .i64 (z : Int)) (hy : a.eval y = .int .i64 (z : Int)) (hl : z * 8 ≤ 281474976710656) (h : St w W L)
    (hk : ∀ v1 w1 ok1, St w w1 (obR (Kd.int .i64) 3 w ok1 v1 (List.replicate z 0) :: L) → wpList Try.prog ops Q rest (a.put oi.dst v1) w1) : wpList Try.prog ops Q (oi :: rest) a W := by
  refine Kd.R_make (Kd.int .i64) (w0 := W) W.heap.size 3 hgd hd 24 x y ho (z : Int) hx hy Try.underlying24 (.int .i64 0) 8 info3 rfl (by decide) (by omega) 0 (ok := fun _ => True) (okp := fun _ => True) rfl (fun _ hk => hk) trivial (by omega) (by rw [Int.toNat_natCast]; exact hl) (Below.refl _ _) (Nat.le_refl _) ?_
  intro v1 w1 hR hB hg _
  rw [Int.toNat_natCast] at hR
  obtain ⟨ok1, h1⟩ := h.addR hB hR
  exact hk v1 w1 ok1 h1
/-- a literal of no element -/
theorem St.lit0 {α : Type} (d : Kd α) (e : Nat) {N : Tmp} (hgd : oi.guard = none) (hd : oi.dst = some N) (hrun : (execOp a.eval oi).run Try.prog W = .ok (.value (.slice (some ⟨W.heap.size, 0, none⟩) 0 0)) (W.alloc (.cells #[] e))) (h : St w W L)
    (hk : ∀ v1 w1 ok1, St w w1 (obS d e w ok1 v1 [] :: L) → wpList Try.prog ops Q rest (a.put oi.dst v1) w1) : wpList Try.prog ops Q (oi :: rest) a W := by
  refine Kd.S_lit d (w0 := W) W.heap.size e hgd hd (xs := []) (inner := []) (ok := fun _ => True) (okp := fun _ => False) hrun (Reps.none _ _) (fun _ h => h.elim) trivial (Below.refl _ _) (Nat.le_refl _) (by simp) ?_
  intro v1 w1 hS hB _ _
  obtain ⟨ok1, h1⟩ := h.addS hB hS
  exact hk v1 w1 ok1 h1
end
section
variable {α β : Type} {d : Kd α} {d' : Kd β} {t t' : Nat} {w W W' : World} {v v' : Value} {xs : List α} {ys : List β} {L : List Ob}
/-- two made at once, that lead to nothing -/
theorem St.addRR (hE : d.E = []) (hE' : d'.E = []) (h : St w W L) (hb : Below W.heap.size W W') (hr : Kd.R d t W' W.heap.size (fun k => some k ≠ v'.ownBlock) v xs) (hr' : Kd.R d' t' W' W.heap.size (fun k => some k ≠ v.ownBlock) v' ys) : ∃ ok1 ok2, St w W' (obR d t w ok1 v xs :: obR d' t' w ok2 v' ys :: L) := by
  have hs := h.below.size
  have b1 := Kd.R_bound (Kd.R_tight hE hr)
  have b2 := Kd.R_bound (Kd.R_tight hE' hr')
  refine ⟨_, _, h.add2 (o := obR d t w (fun k => some k = v.ownBlock ∧ W.heap.size ≤ k ∧ k < W'.heap.size) v xs) (o' := obR d' t' w (fun k => some k = v'.ownBlock ∧ W.heap.size ≤ k ∧ k < W'.heap.size) v' ys) hb (fun _ hk => hk.2) ?_ firmR (fun _ hk => hk.2) ?_ firmR (fun k hk hk2 => ?_)⟩
  · exact Kd.R_mono (Kd.R_lower b1 hs) (fun k hk => ⟨hk.1, hk.2.1, hk.2.2.1⟩)
  · exact Kd.R_mono (Kd.R_lower b2 hs) (fun k hk => ⟨hk.1, hk.2.1, hk.2.2.1⟩)
  · exact hr.1 k hk.1.symm hk2.1
end
/-- a literal of elements, as an event -/
theorem lit_event {ops : Array Oper} {rest : List Oper} {oi : Oper} {a : Act} {Q : Exit → Act → World → Prop} {W : World} {N : Tmp} (hgd : oi.guard = none) (_hd : oi.dst = some N) {cs : Array Value} {t n : Nat}
    (hrun : (execOp a.eval oi).run Try.prog W = .ok (.value (.slice (some ⟨W.heap.size, 0, none⟩) n n)) (W.alloc (.cells cs t (0, 0))))
    (h : ∀ b, b = W.heap.size → ∀ w1, w1.heap[b]? = some (.cells cs t (0, 0)) → Below W.heap.size W w1 → wpList Try.prog ops Q rest (a.put oi.dst (.slice (some ⟨b, 0, none⟩) n n)) w1) : wpList Try.prog ops Q (oi :: rest) a W :=
  Kd.event_run hgd hrun (h _ rfl _ (blk_new W _) (below_alloc (Below.refl _ _) _))
/-- s[z:] of whole numbers -/
theorem cut_ints (A : Option Addr) (n c z : Nat) (h : z ≤ n) (W : World) : (Instr.slice 24 (.slice A n c) (some (.int .i64 (z : Int))) none none).run Try.prog W = .ok (.slice (if c = z then A else A.map (·.add z)) (n - z) (c - z)) W := by
  obtain ⟨i, hi, hz⟩ := Option.map_eq_some_iff.1 info3
  simp only [Prod.mk.injEq] at hz
  have := cut_from (P := Try.prog) 24 3 .i64 Try.underlying24 hi 1 hz.2.1 A n c (z : Int) (by omega) (by omega) W
  simpa using this
end Go.Proofs.Ytdcdndfgdmcomaa.Q

set_option linter.unusedVariables false
set_option linter.unusedSimpArgs false
namespace Go.Proofs.Ytdcdndfgdmcomaa.Q
open Go.RowKit Go.Proofs.Ytdcdndfgdmcomaa.F Go.Proofs.YtdcdndfgdmcomaaW.PrintWords Go.Proofs.YtdcdndfgdmcomaaW.PrintLast Go.Proofs.YtdcdndfgdmcomaaW.PrintMore
section
variable {w W : World} {L : List Ob} {v : Value} {xs : List Int}
theorem at_st (h : St w W L) (hr : Reads (Kd.int .i64) W v xs) (i z : Int) (hz : at0 xs i = z) (hl : xs.length ≤ 1048576) :
    Calls Try.prog 35 #[v, .int .i64 i] W fun e W' => e = .returned (.int .i64 z) ∧ St w W' L := by
  obtain ⟨A, c, rfl, hc, hC⟩ := hr
  refine (impl_at.calls A c xs i z W hC hc (hz ▸ impl_at_eq xs i hl)).mono ?_
  rintro e W' ⟨rfl, hd⟩
  exact ⟨rfl, h.drawn hd⟩
theorem concat_st (h : St w W L) {l : List (List Int)} {r : List Int} (hr : Reads (Kd.slice 3 (Kd.int .i64)) W v l) (hE : Ev (fun k => slices_Concat_int_int.f k l) r) :
    Calls Try.prog 42 #[v] W fun e W' => ∃ v1 ok1, e = .returned v1 ∧ St w W' (obR (Kd.int .i64) 3 w ok1 v1 r :: L) := by
  obtain ⟨A, c, rfl, hc, hC⟩ := hr
  obtain ⟨K, hK⟩ := hE
  refine (slices_Concat_int_int.calls K A c l r W hC hc (hK K (Nat.le_refl _))).mono ?_
  rintro e W' ⟨v1, rfl, hR, hB⟩
  obtain ⟨ok1, h1⟩ := h.addR hB hR
  exact ⟨v1, ok1, rfl, h1⟩
theorem clone_st (h : St w W L) (hr : Reads (Kd.int .i64) W v xs) (hl : xs.length < 17592186044416) :
    Calls Try.prog 34 #[v] W fun e W' => ∃ v1 ok1, e = .returned v1 ∧ St w W' (obR (Kd.int .i64) 3 w ok1 v1 xs :: L) := by
  obtain ⟨A, c, rfl, hc, hC⟩ := hr
  refine (slices_Clone_int_int.calls A c xs xs W hC hc (by unfold slices_Clone_int_int.f; rw [if_pos hl])).mono ?_
  rintro e W' ⟨v1, rfl, hR, hB⟩
  obtain ⟨ok1, h1⟩ := h.addR hB hR
  exact ⟨v1, ok1, rfl, h1⟩
end
end Go.Proofs.Ytdcdndfgdmcomaa.Q

set_option linter.unusedVariables false
set_option linter.unusedSimpArgs false
namespace Go.Proofs.Ytdcdndfgdmcomaa.Q
open Go.RowKit Go.Proofs.Ytdcdndfgdmcomaa.F Go.Proofs.YtdcdndfgdmcomaaW.PrintWords Go.Proofs.YtdcdndfgdmcomaaW.PrintLast Go.Proofs.YtdcdndfgdmcomaaW.PrintMore
/-- as ownsRow, but the block may be longer than the capacity -/
def LRow (w : World) (base : Nat) (e : TypeId) (v : Value) (n : Nat) (xs : List Value) : Prop :=
  xs.length = n ∧ ((v = .slice none 0 0 ∧ n = 0) ∨ ∃ g cap cur, v = .slice (some ⟨g, 0, none⟩) n cap ∧ base ≤ g ∧ w.heap[g]? = some (.cells cur e (0, 0)) ∧ n ≤ cap ∧ cap ≤ maxLen ∧ cap ≤ cur.size ∧ cur.toList.take n = xs)
/-- a loose row of whole numbers -/
def LR (e : Nat) (w : World) (base : Nat) (ok : Nat → Prop) (v : Value) (xs : List Int) : Prop :=
  (∀ k, v.ownBlock = some k → ok k) ∧ LRow w base e v xs.length (nums .i64 xs)
section
variable {e : Nat} {w w1 W : World} {base : Nat} {ok ok' : Nat → Prop} {v : Value} {xs : List Int}
theorem LR_nil (e : Nat) (w : World) (base : Nat) (ok : Nat → Prop) : LR e w base ok (.slice none 0 0) [] := ⟨fun k hk => by simp [Value.ownBlock] at hk, by simp [nums], .inl ⟨rfl, rfl⟩⟩
theorem LR_mono (h : LR e w base ok v xs) (hok : ∀ k, ok k → ok' k) : LR e w base ok' v xs := ⟨fun k hk => hok k (h.1 k hk), h.2⟩
theorem LR_typed (h : LR e w base ok v xs) (k : Nat) (hk : v.ownBlock = some k) : base ≤ k ∧ k < w.heap.size ∧ ∃ cells, w.heap[k]? = some (.cells cells e (0, 0)) := by
  rcases h.2.2 with ⟨rfl, _⟩ | ⟨g, cap, cur, rfl, hg, hh, _⟩
  · simp [Value.ownBlock] at hk
  · have : g = k := by simpa [Value.ownBlock] using hk
    subst this
    exact ⟨hg, blk_lt hh, cur, hh⟩
theorem LR_tight (h : LR e w base ok v xs) : LR e w base (fun k => some k = v.ownBlock) v xs := ⟨fun k hk => hk.symm, h.2⟩
theorem LR_bound (h : LR e w base ok v xs) : LR e w base (fun k => ok k ∧ base ≤ k ∧ k < w.heap.size ∧ ∃ q, q ∈ [e] ∧ ∃ cells, w.heap[k]? = some (.cells cells q (0, 0))) v xs :=
  ⟨fun k hk => by obtain ⟨h1, h2, h3⟩ := LR_typed h k hk; exact ⟨h.1 k hk, h1, h2, e, by simp, h3⟩, h.2⟩
theorem LR_move (h : LR e w base ok v xs) (hm : ∀ k, ok k → w1.heap[k]? = w.heap[k]?) : LR e w1 base ok v xs := by
  refine ⟨h.1, h.2.1, ?_⟩
  rcases h.2.2 with h2 | ⟨g, cap, cur, rfl, hg, hh, r⟩
  · exact .inl h2
  · exact .inr ⟨g, cap, cur, rfl, hg, (hm g (h.1 g (by simp [Value.ownBlock]))).trans hh, r⟩
theorem LR_lower {base' : Nat} (h : LR e w base ok v xs) (hb : base' ≤ base) : LR e w base' ok v xs := by
  refine ⟨h.1, h.2.1, ?_⟩
  rcases h.2.2 with h2 | ⟨g, cap, cur, rfl, hg, r⟩
  · exact .inl h2
  · exact .inr ⟨g, cap, cur, rfl, Nat.le_trans hb hg, r⟩
theorem LR_step (h : LR e w base ok v xs) (hm : ∀ k, ok k → k < w.heap.size → w1.heap[k]? = w.heap[k]?) : LR e w1 base ok v xs :=
  LR_mono (LR_move (LR_bound h) (fun k hk => hm k hk.1 hk.2.2.1)) (fun _ hk => hk.1)
theorem LR_C (h : LR e w base ok v xs) : ∃ A c, v = .slice A xs.length c ∧ xs.length ≤ c ∧ (Kd.int .i64).C w A xs.length xs := by
  obtain ⟨_, hl, h2⟩ := h
  rcases h2 with ⟨rfl, h0⟩ | ⟨g, cap, cur, rfl, hg, hh, hnc, hcm, hcs, ht⟩
  · have : xs = [] := List.eq_nil_of_length_eq_zero h0
    subst this
    exact ⟨none, 0, rfl, Nat.le_refl _, Kd.C_nil _ _⟩
  · refine ⟨_, cap, rfl, hnc, rfl, Nat.le_trans hnc (by unfold maxLen at hcm; omega), fun _ => ⟨_, rfl, fun j p hj => ⟨[.int .i64 p], rfl, rfl, fun i u hu => ?_⟩⟩⟩
    cases i with
    | zero =>
      obtain rfl : Value.int .i64 p = u := by simpa using hu
      have hjl : j < xs.length := (List.getElem?_eq_some_iff.1 hj).1
      rw [show j * (Kd.int .i64).sz + 0 = j from by show j * 1 + 0 = j; omega, add_at, Nat.zero_add]
      have h3 : (nums .i64 xs)[j]? = some (.int .i64 p) := by simp [nums, hj]
      rw [← ht, List.getElem?_take, if_pos hjl] at h3
      rw [blk_cell hh j]
      simpa using h3
    | succ i => simp at hu
theorem LR_slice (h : LR e w base ok v xs) : ∃ A c, v = .slice A xs.length c := by
  obtain ⟨A, c, he, _⟩ := LR_C h
  exact ⟨A, c, he⟩
/-- a whole row is a loose one -/
theorem R_LR (h : Kd.R (Kd.int .i64) e w base ok v xs) : LR e w base ok v xs := by
  obtain ⟨h0, inner, ⟨h1, h2⟩, hr⟩ := h
  have hn : inner = nums .i64 xs := by
    refine List.ext_getElem? fun j => ?_
    by_cases hj : j < xs.length
    · have h3 := hr.2 j _ (List.getElem?_eq_getElem hj)
      have h4 : (inner.drop (j * 1)).take 1 = [.int .i64 xs[j]] := h3
      have hl : inner.length = xs.length := by rw [hr.1]; show xs.length * 1 = _; omega
      rw [Nat.mul_one, List.drop_eq_getElem_cons (by omega)] at h4
      have h5 : inner[j]'(by omega) = .int .i64 xs[j] := (List.cons.inj (show [inner[j]'(by omega)] = [.int .i64 xs[j]] from h4)).1
      rw [List.getElem?_eq_getElem (by omega), h5]
      simp [nums, List.getElem?_eq_getElem hj]
    · have hl : inner.length = xs.length := by rw [hr.1]; show xs.length * 1 = _; omega
      rw [List.getElem?_eq_none (by omega), List.getElem?_eq_none (by simp [nums]; omega)]
  subst hn
  refine ⟨h0, by simp [nums], ?_⟩
  rcases h2 with h2 | ⟨g, cap, cur, rfl, hg, hh, hnc, hcm, hcs, ht⟩
  · exact .inl h2
  · refine .inr ⟨g, cap, cur, rfl, hg, hh, hnc, hcm, by rw [hcs]; show cap ≤ cap * 1; omega, ?_⟩
    have h5 : cur.toList.take (xs.length * 1) = nums .i64 xs := ht
    rwa [Nat.mul_one] at h5
/-- the clipped slice of it -/
theorem LR_clip {A : Option Addr} {n c : Nat} (h : LR e w base ok (.slice A n c) xs) : LR e w base ok (.slice A n n) xs := by
  refine ⟨fun k hk => h.1 k (by
    cases A with
    | none => simp [Value.ownBlock] at hk
    | some a => simpa [Value.ownBlock] using hk), h.2.1, ?_⟩
  rcases h.2.2 with ⟨h2, h0⟩ | ⟨g, cap, cur, he, hg, hh, hnc, hcm, hcs, ht⟩
  · injection h2 with ha hn hc
    exact .inl ⟨by rw [ha, hn], h0⟩
  · injection he with ha hn hc
    exact .inr ⟨g, n, cur, by rw [ha, ← hn], hg, hh, by omega, by omega, by omega, ht⟩
/-- a store into it -/
theorem LR_put {g n c : Nat} (h : LR e w base ok (.slice (some ⟨g, 0, none⟩) n c) xs) (i : Nat) (hi : i < xs.length) (x : Int) : LR e (w.setCell ⟨g, i, none⟩ (.int .i64 x)) base ok (.slice (some ⟨g, 0, none⟩) n c) (xs.set i x) := by
  refine ⟨h.1, by simp [nums], ?_⟩
  rcases h.2.2 with ⟨h2, h0⟩ | ⟨g', cap, cur, he, hg, hh, hnc, hcm, hcs, ht⟩
  · cases h2
  · injection he with ha hn hc
    injection ha with ha
    injection ha with ha _ _
    subst ha
    refine .inr ⟨g, cap, cur.setIfInBounds i (.int .i64 x), by rw [List.length_set, hn, hc], hg, blk_put hh i _ rfl, by rw [List.length_set]; exact hnc, hcm, by rw [Array.size_setIfInBounds]; exact hcs, ?_⟩
    rw [List.length_set, Array.toList_setIfInBounds, List.take_set, ht]
    simp [nums, List.map_set]
theorem LR_cell {g n c : Nat} (h : LR e w base ok (.slice (some ⟨g, 0, none⟩) n c) xs) (i : Nat) (hi : i < xs.length) : w.cell? ⟨g, i, none⟩ = some (.int .i64 (xs.getD i 0)) ∧ w.frozen? ⟨g, i, none⟩ = false := by
  rcases h.2.2 with ⟨h2, h0⟩ | ⟨g', cap, cur, he, hg, hh, hnc, hcm, hcs, ht⟩
  · cases h2
  · injection he with ha hn hc
    injection ha with ha
    injection ha with ha _ _
    subst ha
    refine ⟨?_, blk_frozen hh i⟩
    have h3 : (nums .i64 xs)[i]? = some (.int .i64 (xs.getD i 0)) := by simp [nums, List.getD_eq_getElem?_getD, List.getElem?_eq_getElem hi]
    rw [← ht, List.getElem?_take, if_pos hi] at h3
    rw [blk_cell hh i]
    simpa using h3
theorem LR_form (h : LR e w base ok v xs) (hl : 0 < xs.length) : ∃ g cap, v = .slice (some ⟨g, 0, none⟩) xs.length cap ∧ xs.length ≤ cap ∧ base ≤ g ∧ g < w.heap.size := by
  rcases h.2.2 with ⟨_, h0⟩ | ⟨g, cap, cur, rfl, hg, hh, hnc, r⟩
  · omega
  · exact ⟨g, cap, rfl, hnc, hg, blk_lt hh⟩
end
/-- the kind of loose rows -/
def loose (e : Nat) : Kd (List Int) where
  sz := 1
  E := [e]
  K := fun w xs cs => ∃ A c, cs = [.slice A xs.length c] ∧ xs.length ≤ c ∧ (Kd.int .i64).C w A xs.length xs
  M := fun w base ok xs cs => ∃ v, cs = [v] ∧ LR e w base ok v xs
  K_len := by
    rintro w x cs ⟨A, c, rfl, _⟩
    rfl
  K_one := by
    rintro w x cs ⟨A, c, rfl, _⟩ u hu
    rw [List.mem_singleton.1 hu]
    rfl
  K_below := by
    rintro w w1 x cs hb ⟨A, c, rfl, hl, hr⟩
    exact ⟨A, c, rfl, hl, Kd.C_below hr hb⟩
  K_of_M := by
    rintro w base ok x cs ⟨v, rfl, h⟩
    obtain ⟨A, c, rfl, hl, hr⟩ := LR_C h
    exact ⟨A, c, rfl, hl, hr⟩
  M_mono := by
    rintro w base ok ok' x cs hok ⟨v, rfl, h⟩
    exact ⟨v, rfl, LR_mono h hok⟩
  M_bound := by
    rintro w base ok x cs ⟨v, rfl, h⟩
    exact ⟨v, rfl, LR_bound h⟩
  M_move := by
    rintro w w1 base ok x cs hm ⟨v, rfl, h⟩
    exact ⟨v, rfl, LR_move h hm⟩
  M_lower := by
    rintro w base base' ok x cs hb ⟨v, rfl, h⟩
    exact ⟨v, rfl, LR_lower h hb⟩
/-- read, such rows are as others are -/
theorem loose_C {e : Nat} {w : World} {A : Option Addr} {n : Nat} {xs : List (List Int)} (h : (loose e).C w A n xs) : (Kd.slice e (Kd.int .i64)).C w A n xs := h
/-- a made loose row, among what is held -/
def obL (t : Nat) (w : World) (ok : Nat → Prop) (v : Value) (xs : List Int) : Ob := ⟨ok, fun W => LR t W w.heap.size ok v xs⟩
section
variable {t : Nat} {w W W' : World} {ok ok' : Nat → Prop} {v : Value} {xs : List Int} {L L' : List Ob}
theorem firmL : Firm (obL t w ok v xs) := fun _ _ h hm => LR_step h hm
theorem St.readL (h : St w W L) (i : Nat) (hi : L[i]? = some (obL t w ok v xs)) : Reads (Kd.int .i64) W v xs := LR_C (h.get i hi)
theorem St.addL (h : St w W L) (hb : Below W.heap.size W W') (hr : LR t W' W.heap.size ok v xs) : ∃ ok1, St w W' (obL t w ok1 v xs :: L) :=
  ⟨_, h.add (o := obL t w (fun k => W.heap.size ≤ k ∧ k < W'.heap.size) v xs) hb (fun _ hk => hk) (LR_mono (LR_lower (LR_bound hr) h.below.size) (fun k hk => ⟨hk.2.1, hk.2.2.1⟩)) firmL⟩
/-- a loose row and a list of rows behind it, out of one call -/
theorem St.addLS {β : Type} {d' : Kd β} {t' : Nat} {v' : Value} {ys : List β} (h : St w W L) (hb : Below W.heap.size W W') (hr : LR t W' W.heap.size (fun _ => True) v xs) (hr' : Kd.S d' t' W' W.heap.size (fun k => some k ≠ v.ownBlock) v' ys) : ∃ ok1 ok2, St w W' (obL t w ok1 v xs :: obS d' t' w ok2 v' ys :: L) := by
  have hs := h.below.size
  refine ⟨_, _, h.add2 (o := obL t w (fun k => some k = v.ownBlock ∧ W.heap.size ≤ k ∧ k < W'.heap.size) v xs) (o' := obS d' t' w (fun k => some k ≠ v.ownBlock ∧ W.heap.size ≤ k ∧ k < W'.heap.size) v' ys) hb (fun _ hk => hk.2) ?_ firmL (fun _ hk => hk.2) ?_ firmS (fun _ hk hk2 => hk2.1 hk.1)⟩
  · exact LR_mono (LR_lower (LR_bound (LR_tight hr)) hs) (fun k hk => ⟨hk.1, hk.2.1, hk.2.2.1⟩)
  · exact Kd.S_mono (Kd.S_lower (Kd.S_bound hr') hs) (fun k hk => ⟨hk.1, hk.2.1, hk.2.2.1⟩)
/-- handed back: a list of rows and a loose row -/
theorem St.giveSL {β : Type} {d' : Kd β} {t' : Nat} {ok0 ok1 : Nat → Prop} {v0 v1 : Value} {xs : List Int} {ys : List β} (h : St w W L) (i j : Nat) (hij : j < i) (hi : L[i]? = some (obL t w ok0 v0 xs)) (hj : L[j]? = some (obS d' t' w ok1 v1 ys)) :
    LR t W w.heap.size (fun _ => True) v0 xs ∧ Kd.S d' t' W w.heap.size (fun k_ => some k_ ≠ (v0 : Value).ownBlock) v1 ys ∧ Below w.heap.size w W := by
  have hR : LR t W w.heap.size ok0 v0 xs := h.get i hi
  have hS : Kd.S d' t' W w.heap.size ok1 v1 ys := h.get j hj
  refine ⟨LR_mono hR (fun _ _ => trivial), Kd.S_mono hS (fun k hk e => ?_), h.below⟩
  obtain ⟨hil, hi'⟩ := List.getElem?_eq_some_iff.1 hi
  obtain ⟨hjl, hj'⟩ := List.getElem?_eq_some_iff.1 hj
  have hp := List.pairwise_iff_getElem.1 h.apart j i hjl hil hij k
  rw [hi', hj'] at hp
  exact hp hk (hR.1 k e.symm)
end
end Go.Proofs.Ytdcdndfgdmcomaa.Q

set_option linter.unusedVariables false
set_option linter.unusedSimpArgs false
namespace Go.Proofs.Ytdcdndfgdmcomaa.Q
open Go.RowKit Go.Proofs.Ytdcdndfgdmcomaa.F Go.Proofs.YtdcdndfgdmcomaaW.PrintWords Go.Proofs.YtdcdndfgdmcomaaW.PrintLast Go.Proofs.YtdcdndfgdmcomaaW.PrintMore
theorem clip_calls (A : Option Addr) (n c : Nat) (hc : n ≤ c) (w : World) : Calls Try.prog 62 #[.slice A n c] w fun e w' => e = .returned (.slice A n n) ∧ w = w' := by
  go_enter Try.func62, Try.ntmps62
  have h0 : (0 : Int) ≤ (n : Int) := by omega
  have h1 : (n : Int) ≤ (c : Int) := by omega
  go_wp2
  go_ret
  exact ⟨by simp, rfl⟩
theorem trimLen_self (l : List Int) (k : Nat) (h : k = 0 ∨ rd l ((k - 1 : Nat) : Int) ≠ 0) : trimLen l k = k := by
  cases k with
  | zero => rfl
  | succ k =>
    simp only [trimLen]
    rcases h with h | h
    · omega
    · rw [Nat.add_sub_cancel] at h
      rw [if_neg h]
set_option maxHeartbeats 4000000 in
set_option maxRecDepth 100000 in
/-- trimmed, of a row that is held: the row is cut, its block stays -/
theorem trimmed_calls {w0 W : World} {ok : Nat → Prop} {v : Value} {xs : List Int} (hR : Kd.R (Kd.int .i64) 3 W w0.heap.size ok v xs) (hl : xs.length ≤ 1048576) :
    Calls Try.prog 45 #[v] W fun e W' => ∃ v', e = .returned v' ∧ LR 3 W w0.heap.size ok v' (trimZ xs) ∧ W = W' := by
  obtain ⟨A, c, rfl⟩ := Kd.R_slice hR
  have hcc := (Kd.R_reads' hR).2.1
  have HR := Aside0.mk hR
  clear hR
  go_enter Try.func45, Try.ntmps45
  go_wp2
  go_loopg [0] xs.length (fun kq v0 wr => ∃ k : Nat, k ≤ xs.length ∧ k ≤ kq ∧ v0 = .slice A k c ∧ Aside0 (trimLen xs xs.length = trimLen xs k) ∧ W = wr)
  case atStart => exact ⟨xs.length, Nat.le_refl _, by omega, rfl, ⟨rfl⟩, rfl⟩
  case round =>
    obtain ⟨k, hk, hg, rfl, HT, rfl⟩ := hrel
    have hkc : k ≤ c := by omega
    by_cases h0 : 0 < k
    · have h0z : (0 : Int) < (k : Int) := by omega
      obtain ⟨ad, hA, hcell⟩ := Kd.at_int (Kd.R_reads' HR.out).2.2 ((k - 1 : Nat) : Int) (by omega) (by omega)
      subst hA
      rw [Int.toNat_natCast] at hcell
      obtain ⟨x, hx⟩ : ∃ x, x = rd xs ((k - 1 : Nat) : Int) := ⟨_, rfl⟩
      rw [← hx] at hcell
      have HX := Aside0.mk hx
      have e1 : (k : Int) - 1 = ((k - 1 : Nat) : Int) := by omega
      have hkz : (0 : Int) ≤ (k : Int) - 1 := by omega
      have hkz2 : (k : Int) - 1 < (k : Int) := by omega
      have hkt : ((k : Int) - 1).toNat = k - 1 := by omega
      clear hx
      by_cases hx0 : x = 0
      · have hb : (x == 0) = true := beq_iff_eq.mpr hx0
        have HT2 : Aside0 (trimLen xs xs.length = trimLen xs (k - 1)) := ⟨by
          rw [HT.out]
          obtain ⟨q, rfl⟩ : ∃ q, k = q + 1 := ⟨k - 1, by omega⟩
          simp only [trimLen, Nat.add_sub_cancel]
          rw [if_pos (by have := HX.out; rw [Nat.add_sub_cancel] at this; rw [← this]; exact hx0)]⟩
        clear hx0 e1
        go_wp2
        go_roundg (k - 1)
        case measure => omega
        case rel => exact ⟨k - 1, by omega, by omega, by first | rfl | (simp; done) | (simp; omega), HT2, rfl⟩
      · have hb : (x == 0) = false := beq_eq_false_iff_ne.mpr hx0
        have HT2 : Aside0 (trimLen xs xs.length = k) := ⟨by rw [HT.out]; exact trimLen_self xs k (.inr (by rw [← HX.out]; exact hx0))⟩
        clear hx0 e1
        go_wp2_with (go_at_call 62; refine (clip_calls _ k c hkc _).mono ?_; rintro e w2 ⟨rfl, rfl⟩)
        go_ret
        refine ⟨_, rfl, ?_, rfl⟩
        have h1 := LR_clip (R_LR (Kd.R_take HR.out (m := k) hk))
        unfold trimZ
        rw [HT2.out]
        exact h1
    · have hk0 : k = 0 := by omega
      subst hk0
      have HT2 : Aside0 (trimLen xs xs.length = 0) := ⟨by rw [HT.out]; rfl⟩
      go_wp2_with (go_at_call 62; refine (clip_calls _ 0 c hkc _).mono ?_; rintro e w2 ⟨rfl, rfl⟩)
      go_ret
      refine ⟨_, rfl, ?_, rfl⟩
      have h1 := LR_clip (R_LR (Kd.R_take HR.out (m := 0) hk))
      unfold trimZ
      rw [HT2.out]
      exact h1
section
variable {w W : World} {L : List Ob} {v : Value} {p : List Int}
theorem contains_st (h : St w W L) (hr : Reads (Kd.int .i64) W v p) (hl : p.length ≤ 1048576) (x : Int) {b : Bool} (hb : decide (x ∈ p) = b) :
    Calls Try.prog 61 #[v, .int .i64 x] W fun e W' => e = .returned (.bool b) ∧ St w W' L := by
  obtain ⟨A, c, rfl, hc, hCC⟩ := hr
  obtain ⟨K, hK⟩ := ev_eq (slices_Contains_ev p x hl) hb
  refine (slices_Contains_int_int.calls K A c p x b W hCC hc (hK K (Nat.le_refl _))).mono ?_
  rintro e W' ⟨rfl, hd⟩
  exact ⟨rfl, h.drawn hd⟩
end
end Go.Proofs.Ytdcdndfgdmcomaa.Q

set_option linter.unusedVariables false
set_option linter.unusedSimpArgs false
namespace Go.Proofs.Ytdcdndfgdmcomaa.Q
open Go.RowKit Go.Proofs.Ytdcdndfgdmcomaa.F Go.Proofs.YtdcdndfgdmcomaaW.PrintWords Go.Proofs.YtdcdndfgdmcomaaW.PrintLast Go.Proofs.YtdcdndfgdmcomaaW.PrintMore
section
variable {w W : World} {L : List Ob} {v0 v1 : Value} {n : List Int} {m : List (List Int)}
theorem isStd_evR (n : List Int) (m : List (List Int)) (hn : n.length ≤ 1048576) (hm : m.length ≤ 1048576) (hr : ∀ r ∈ m, r.length ≤ 1048576) : Ev (fun k => impl_IsStandard.f k n m) (isStd n m) := by
  unfold impl_IsStandard.f isStd
  refine Ev.bind (impl_IsTableau_ev n m hn hm hr) (ev_ite (fun h => ?_) (fun h => ?_))
  · have hb : bulk m ≤ 1048576 := by have := isTab_bulk h; rw [flatten_bulk] at this; omega
    refine Ev.bind (slices_Concat_ev m hm hb) (Ev.bind (impl_areOnce_ev _ (by rw [flatten_bulk]; exact hb)) (ev_val ?_))
    rw [h, Bool.true_and]
  · rw [Bool.not_eq_true] at h
    exact ev_val (by rw [h]; rfl)
theorem isStd_st {b : Bool} (h : St w W L) (h0 : Reads (Kd.int .i64) W v0 n) (h1 : Reads (Kd.slice 3 (Kd.int .i64)) W v1 m) (hn : n.length ≤ 1048576) (hm : m.length ≤ 1048576) (hr : ∀ r ∈ m, r.length ≤ 1048576) (hb : isStd n m = b) :
    Calls Try.prog 36 #[.agg #[v0, v1]] W fun e W' => e = .returned (.bool b) ∧ St w W' L := by
  obtain ⟨A0, c0, rfl, hc0, hC0⟩ := h0
  obtain ⟨A1, c1, rfl, hc1, hC1⟩ := h1
  obtain ⟨K, hK⟩ := ev_eq (isStd_evR n m hn hm hr) hb
  refine (impl_IsStandard.calls K A0 c0 n A1 c1 m b W hC0 hc0 hC1 hc1 (hK K (Nat.le_refl _))).mono ?_
  rintro e W' ⟨rfl, hB⟩
  exact ⟨rfl, h.quiet hB⟩
theorem trimmed_st {ok : Nat → Prop} {v : Value} {xs ys : List Int} (h : St w W (obR (Kd.int .i64) 3 w ok v xs :: L)) (hl : xs.length ≤ 1048576) (hy : trimZ xs = ys) :
    Calls Try.prog 45 #[v] W fun e W' => ∃ v', e = .returned v' ∧ St w W' (obL 3 w ok v' ys :: L) := by
  subst hy
  refine (trimmed_calls (h.get 0 rfl) hl).mono ?_
  rintro e W' ⟨v', rfl, h1, rfl⟩
  exact ⟨v', rfl, h.mark (o' := obL 3 w ok v' (trimZ xs)) 0 rfl rfl firmL h.below (Kept.refl _ _) h1 rfl⟩
end
section
variable {ops : Array Oper} {rest : List Oper} {oi : Oper} {a : Act} {Q : Exit → Act → World → Prop} {w W : World} {L : List Ob}
/-- a literal of no whole number -/
theorem St.litZ {N : Tmp} (hgd : oi.guard = none) (hd : oi.dst = some N) (hrun : (execOp a.eval oi).run Try.prog W = .ok (.value (.slice (some ⟨W.heap.size, 0, none⟩) 0 0)) (W.alloc (.cells #[] 3))) (h : St w W L)
    (hk : ∀ v1 w1 ok1, St w w1 (obR (Kd.int .i64) 3 w ok1 v1 [] :: L) → wpList Try.prog ops Q rest (a.put oi.dst v1) w1) : wpList Try.prog ops Q (oi :: rest) a W := by
  refine Kd.R_lit (Kd.int .i64) (w0 := W) W.heap.size 3 hgd hd (xs := []) (inner := []) (ok := fun _ => True) (okp := fun _ => False) hrun (Reps.none _ _) (fun _ h => h.elim) trivial (Below.refl _ _) (Nat.le_refl _) (by simp) ?_
  intro v1 w1 hR hB _ _
  obtain ⟨ok1, h1⟩ := h.addR hB hR
  exact hk v1 w1 ok1 h1
end
theorem cntLe_append (a b : List Int) (k : Int) : cntLe (a ++ b) k = cntLe a k + cntLe b k := by unfold cntLe; rw [List.filter_append, List.length_append]
set_option maxHeartbeats 8000000 in
set_option maxRecDepth 100000 in
theorem chainOf_calls (A0 : Option Addr) (c0 : Nat) (n : List Int) (A1 : Option Addr) (c1 : Nat) (m : List (List Int)) (w : World) (hr0 : Kd.C (Kd.int .i64) w A0 n.length n) (hc0 : n.length ≤ c0) (hr1 : Kd.C (Kd.slice 3 (Kd.int .i64)) w A1 m.length m) (hc1 : m.length ≤ c1)
    (hn : n.length ≤ 1048576) (hm : m.length ≤ 1048576) (hb : bulk m ≤ 1048576) :
    Calls Try.prog 24 #[.agg #[.slice A0 n.length c0, .slice A1 m.length c1]] w fun e w' => ∃ v, e = .returned v ∧ Kd.S (loose 3) 24 w' w.heap.size (fun _ => True) v (chainOf n m) ∧ Below w.heap.size w w' := by
  have C0 := Aside0.mk hr0
  have C1 := Aside0.mk hr1
  have H0 := Aside0.mk (St.start w)
  have BK := Aside0.mk hb
  have hfl : m.flatten.length ≤ 1048576 := by rw [flatten_bulk]; exact hb
  clear hr0 hr1 hb
  cases hs : isStd n m with
  | false =>
    have e : chainOf n m = [] := by unfold chainOf; rw [hs]; rfl
    rw [e]
    have HT := Aside0.mk hs
    clear e hs
    go_enter Try.func24, Try.ntmps24
    go_wp2_with (first
      | ((with_reducible refine gate_dst (N := 1) rfl ?_); refine zX (N := 1) (cs := #[.slice A0 n.length c0, .slice A1 m.length c1]) (t := 26) ?_; intro b1 hb1 wb1 hxb1 hlb1; have H1 := Aside0.mk (St.addB H0.out hxb1 hb1 hlb1); clear hxb1 hb1 hlb1; have z0 : wb1.cell? ⟨b1, 0, none⟩ = some (.slice A0 n.length c0) := St.cellB H1.out 0 rfl 0 rfl; have z1 : wb1.cell? ⟨b1, 1, none⟩ = some (.slice A1 m.length c1) := St.cellB H1.out 0 rfl 1 rfl)
      | (go_at_call 36; (with_reducible refine (isStd_st H1.out (H1.out.came C0.out hc0) (H1.out.came C1.out hc1) hn hm (fun r h_ => by have := bulk_mem h_; have := BK.out; omega) HT.out).mono ?_); rintro e w2 ⟨rfl, h_⟩; have H2 := Aside0.mk h_; clear h_ z0 z1))
    go_ret
    exact ⟨_, rfl, Kd.S_nil _ _ _ _ _, H2.out.below⟩
  | true =>
    have e : chainOf n m = (List.range (m.flatten.length + 1)).map (fun k : Nat => trimZ (levelRow n m (k : Int))) := by unfold chainOf; rw [hs]; rfl
    rw [e]
    have ht : isTab n m = true := by unfold isStd at hs; exact (Bool.and_eq_true _ _ ▸ hs).1
    have hp := (hasShape_bd (isTab_iff.1 ht).1).1
    obtain ⟨hm9, hq9, _⟩ := isTab_cells ht
    have HT := Aside0.mk hs
    have HP := Aside0.mk hp
    have HQ9 := Aside0.mk hq9
    have HCE := Aside0.mk (slices_Concat_ev m hm BK.out)
    obtain ⟨N, hN⟩ : ∃ N, N = m.flatten.length := ⟨_, rfl⟩
    rw [← hN] at hfl ⊢
    have HN := Aside0.mk hN
    obtain ⟨R, hR⟩ : ∃ R, R = (List.range (N + 1)).map (fun k : Nat => trimZ (levelRow n m (k : Int))) := ⟨_, rfl⟩
    rw [← hR]
    have HR := Aside0.mk hR
    clear e hs ht hp hq9 hN hR
    go_enter Try.func24, Try.ntmps24
    go_wp2_with (first
      | ((with_reducible refine gate_dst (N := 1) rfl ?_); refine zX (N := 1) (cs := #[.slice A0 n.length c0, .slice A1 m.length c1]) (t := 26) ?_; intro b1 hb1 wb1 hxb1 hlb1; have H1 := Aside0.mk (St.addB H0.out hxb1 hb1 hlb1); clear hxb1 hb1 hlb1; have z0 : wb1.cell? ⟨b1, 0, none⟩ = some (.slice A0 n.length c0) := St.cellB H1.out 0 rfl 0 rfl; have z1 : wb1.cell? ⟨b1, 1, none⟩ = some (.slice A1 m.length c1) := St.cellB H1.out 0 rfl 1 rfl)
      | (go_at_call 36; (with_reducible refine (isStd_st H1.out (H1.out.came C0.out hc0) (H1.out.came C1.out hc1) hn hm (fun r h_ => by have := bulk_mem h_; have := BK.out; omega) HT.out).mono ?_); rintro e w2 ⟨rfl, h_⟩; have H2 := Aside0.mk h_; clear h_ z0 z1)
      | ((with_reducible refine gate_dst (N := 14) rfl ?_); refine St.lit0 (loose 3) 24 (N := 14) rfl rfl ?hr H2.out ?_; (case hr => first | (go_simp; done) | (go_simp; rfl)); intro v3 w3 ok3 h_; have H3 := Aside0.mk h_; clear h_; have z1 : w3.cell? ⟨b1, 1, none⟩ = some (.slice A1 m.length c1) := St.cellB H3.out 1 rfl 1 rfl)
      | (go_at_call 42; (with_reducible refine (concat_st H3.out (H3.out.came C1.out hc1) HCE.out).mono ?_); rintro e w4 ⟨v4, ok4, rfl, h_⟩; have H4 := Aside0.mk (St.drop_ h_); obtain ⟨A4, c4, e4, _, _⟩ := h_.readR 0 rfl; subst e4; clear h_ z1; rw [← HN.out]))
    go_loopg [3, 20] (N + 1) (fun kq v3 v20 wr => ∃ (k : Nat) (ok : Nat → Prop), k ≤ N + 1 ∧ N + 1 - k ≤ kq ∧ v20 = .int .i64 (k : Int) ∧ Aside0 (St w wr [obS (loose 3) 24 w ok v3 ((List.range k).map (fun q : Nat => trimZ (levelRow n m (q : Int)))), obB b1 #[.slice A0 n.length c0, .slice A1 m.length c1] 26]))
    case atStart => exact ⟨0, ok3, Nat.zero_le _, by omega, rfl, H4⟩
    case round =>
      clear H0 H1 H2 H3 H4
      obtain ⟨k, ok, hk, hg, rfl, HS⟩ := hrel
      by_cases hlt : k < N + 1
      · have hltz : (k : Int) < (N : Int) + 1 := by omega
        obtain ⟨OUT, hOUT⟩ : ∃ x, x = (List.range k).map (fun q : Nat => trimZ (levelRow n m (q : Int))) := ⟨_, rfl⟩
        rw [← hOUT] at HS
        have HOUT := Aside0.mk hOUT
        have HOL := Aside0.mk (show OUT.length = k by rw [hOUT]; simp)
        clear hOUT
        go_wp2_with ((with_reducible refine gate_dst (N := 23) rfl ?_); refine St.litZ (N := 23) rfl rfl ?hr HS.out ?_; (case hr => first | (go_simp; done) | (go_simp; rfl)); intro v5 w5 ok5 h_; have H5 := Aside0.mk h_; clear h_; have z1 : w5.cell? ⟨b1, 1, none⟩ = some (.slice A1 m.length c1) := St.cellB H5.out 2 rfl 1 rfl)
        go_loopg [5, 27] m.length (fun kq v5 v27 wr => ∃ (i : Nat) (okp okq : Nat → Prop), i ≤ m.length ∧ m.length - i ≤ kq ∧ v27 = .int .i64 (i : Int) ∧ Aside0 (St w wr [obR (Kd.int .i64) 3 w okp v5 ((List.range i).map (level n m (k : Int))), obS (loose 3) 24 w okq u3 OUT, obB b1 #[.slice A0 n.length c0, .slice A1 m.length c1] 26]))
        case atStart => exact ⟨0, ok5, ok, Nat.zero_le _, by omega, rfl, H5⟩
        case round =>
          clear H5 HS
          obtain ⟨i, okp, okq, hi, hg2, rfl, HS⟩ := hrel
          by_cases hlt2 : i < m.length
          · have hltz2 : (i : Int) < (m.length : Int) := by omega
            obtain ⟨ad, Ar, cr, e, hxw, hl, hiw⟩ := at_L1 C1.out (i : Int) (by omega) hltz2
            subst e
            have hx := pw_cell_below HS.out.below hxw
            rw [Int.toNat_natCast] at hx
            have hr9 := HQ9.out _ (rows_mem m i hlt2)
            have hlv : level n m (k : Int) i = at0 n (i : Int) + (cntLe (rd_L1 m (i : Int)) (k : Int) : Int) := rfl
            obtain ⟨row, hrw⟩ : ∃ q, q = rd_L1 m (i : Int) := ⟨_, rfl⟩
            rw [← hrw] at hx hl hiw hr9 hlv
            obtain ⟨q0, hq0⟩ : ∃ q : Nat, at0 n (i : Int) = (q : Int) := ⟨(at0 n (i : Int)).toNat, by have := at0_bd HP.out (i : Int); omega⟩
            have hq9 : q0 ≤ 9 := by have := at0_bd HP.out (i : Int); omega
            rw [hq0] at hlv
            have HAT := Aside0.mk hq0
            have HLV := Aside0.mk hlv
            have CR := Aside0.mk hiw
            have z0 : wr.cell? ⟨b1, 0, none⟩ = some (.slice A0 n.length c0) := St.cellB HS.out 2 rfl 0 rfl
            clear hxw hrw hiw hlv hq0
            go_wp2_with (go_at_call 35; (with_reducible refine (at_st HS.out (HS.out.came C0.out hc0) (i : Int) (q0 : Int) HAT.out hn).mono ?_); rintro e w7 ⟨rfl, h_⟩; have H7 := Aside0.mk h_; clear h_ z0)
            go_loopg [8, 38] row.length (fun kq v8 v38 wr => ∃ (j q : Nat), j ≤ row.length ∧ row.length - j ≤ kq ∧ v38 = .int .i64 (j : Int) ∧ v8 = .int .i64 (q : Int) ∧ Aside0 (q = q0 + cntLe (row.take j) (k : Int)) ∧ w7 = wr)
            case atStart => exact ⟨0, q0, Nat.zero_le _, by omega, rfl, rfl, ⟨by simp [cntLe]⟩, rfl⟩
            case round =>
              obtain ⟨j, q, hj, hg3, rfl, rfl, HQ, rfl⟩ := hrel
              by_cases hlt3 : j < row.length
              · have hltz3 : (j : Int) < (row.length : Int) := by omega
                obtain ⟨ad2, e, hxw⟩ := Kd.at_int CR.out (j : Int) (by omega) hltz3
                subst e
                have hx3 := pw_cell_below H7.out.below hxw
                rw [Int.toNat_natCast] at hx3
                obtain ⟨y, hy⟩ : ∃ y, y = rd row (j : Int) := ⟨_, rfl⟩
                rw [← hy] at hx3
                have hqb : q ≤ 1048600 := by have h1 := HQ.out; have h2 := cntLe_le (row.take j) (k : Int); rw [List.length_take] at h2; omega
                have e1 : cntLe (row.take (j + 1)) (k : Int) = cntLe (row.take j) (k : Int) + cntLe [y] (k : Int) := by rw [take_rd row j hlt3, cntLe_append, ← hy]
                have e2 := cntLe_cons y [] (k : Int)
                have HE := Aside0.mk e1
                have HY := Aside0.mk e2
                clear e1 e2 hy hxw
                by_cases hyk : y ≤ (k : Int)
                · have HY2 := Aside0.mk hyk
                  go_wp2
                  go_roundg (row.length - (j + 1))
                  case measure => omega
                  case rel => exact ⟨j + 1, q + 1, by omega, by omega, by go_num, by go_num, ⟨by rw [HE.out, HY.out, if_pos (by have := HY2.out; omega), HQ.out]; simp [cntLe]; omega⟩, rfl⟩
                · have HY2 := Aside0.mk hyk
                  go_wp2
                  go_roundg (row.length - (j + 1))
                  case measure => omega
                  case rel => exact ⟨j + 1, q, by omega, by omega, by go_num, rfl, ⟨by rw [HE.out, HY.out, if_neg (by have := HY2.out; omega), HQ.out]; simp [cntLe]⟩, rfl⟩
              · have hj2 : j = row.length := by omega
                subst hj2
                have hltz3 : ¬ (row.length : Int) < (row.length : Int) := by omega
                have hlv : level n m (k : Int) i = (q : Int) := by rw [HLV.out, HQ.out, List.take_length]; omega
                have HE : Aside0 ((List.range i).map (level n m (k : Int)) ++ [(q : Int)] = (List.range (i + 1)).map (level n m (k : Int))) := ⟨by rw [List.range_succ, List.map_append, List.map_singleton, hlv]⟩
                have HLP : Aside0 (((List.range i).map (level n m (k : Int))).length = i) := ⟨by simp⟩
                clear hlv
                go_wp2_with (at_builtin; refine St.put1 (x := (q : Int)) (bb := 0) (c := 0) rfl (.tmp 48) (.tmp 50) rfl H7.out 0 rfl rfl rfl (by rw [HLP.out]; omega) ?_; intro v9 w9 ok9 h_; have H9 := Aside0.mk h_; clear h_)
                go_roundg (m.length - (i + 1))
                case measure => omega
                case rel => exact ⟨i + 1, ok9, okq, by omega, by omega, by go_num, ⟨by rw [← HE.out]; exact H9.out⟩⟩
          · have hi2 : i = m.length := by omega
            subst hi2
            have hltz2 : ¬ (m.length : Int) < (m.length : Int) := by omega
            have HE : Aside0 (OUT ++ [trimZ (levelRow n m (k : Int))] = (List.range (k + 1)).map (fun q : Nat => trimZ (levelRow n m (q : Int)))) := ⟨by rw [HOUT.out, List.range_succ, List.map_append, List.map_singleton]⟩
            have HLP : Aside0 (((List.range m.length).map (level n m (k : Int))).length ≤ 1048576) := ⟨by simpa using hm⟩
            go_wp2_with (first
              | (go_at_call 45; (with_reducible refine (trimmed_st HS.out HLP.out rfl).mono ?_); rintro e w9 ⟨v9, rfl, h_⟩; have H9 := Aside0.mk h_; clear h_; obtain ⟨A9, c9, rfl, _, _⟩ := H9.out.readL 0 rfl)
              | (at_builtin; refine St.push (t := 22) rfl (.tmp 53) (.tmp 56) rfl Try.underlying22 (.slice none 0 0) 24 info24 rfl (by decide) (by omega) H9.out rfl rfl ⟨_, rfl, H9.out.get 0 rfl⟩ (by rw [HOL.out]; omega) ?_; intro v10 w10 ok10 h_; have H10 := Aside0.mk h_; clear h_))
            go_roundg (N + 1 - (k + 1))
            case measure => omega
            case rel => exact ⟨k + 1, ok10, by omega, by omega, by go_num, ⟨by rw [← HE.out]; exact H10.out⟩⟩
      · have hk2 : k = N + 1 := by omega
        subst hk2
        have hltz : ¬ ((N + 1 : Nat) : Int) < (N : Int) + 1 := by omega
        go_wp2
        go_ret
        refine ⟨_, rfl, ?_, HS.out.below⟩
        rw [HR.out]
        exact Kd.S_mono (HS.out.get 0 rfl) (fun _ _ => trivial)
theorem chainOf_st {w W : World} {L : List Ob} {A0 A1 : Option Addr} {c0 c1 : Nat} {n : List Int} {m : List (List Int)} (h : St w W L) (h0 : Reads (Kd.int .i64) W (.slice A0 n.length c0) n) (h1 : Reads (Kd.slice 3 (Kd.int .i64)) W (.slice A1 m.length c1) m) (hn : n.length ≤ 1048576) (hm : m.length ≤ 1048576) (hb : bulk m ≤ 1048576) :
    Calls Try.prog 24 #[.agg #[.slice A0 n.length c0, .slice A1 m.length c1]] W fun e W' => ∃ v ok, e = .returned v ∧ St w W' (obS (loose 3) 24 w ok v (chainOf n m) :: L) := by
  refine (chainOf_calls A0 c0 n A1 c1 m W (Reads.C h0).2 (Reads.C h0).1 (Reads.C h1).2 (Reads.C h1).1 hn hm hb).mono ?_
  rintro e W' ⟨v, rfl, hS, hB⟩
  obtain ⟨ok, h1⟩ := h.addS hB hS
  exact ⟨v, ok, rfl, h1⟩
end Go.Proofs.Ytdcdndfgdmcomaa.Q

set_option linter.unusedVariables false
set_option linter.unusedSimpArgs false
namespace Go.Proofs.Ytdcdndfgdmcomaa.Q
open Go.RowKit Go.Proofs.Ytdcdndfgdmcomaa.F Go.Proofs.YtdcdndfgdmcomaaW.PrintWords Go.Proofs.YtdcdndfgdmcomaaW.PrintLast Go.Proofs.YtdcdndfgdmcomaaW.PrintMore
section
variable {w W : World} {L : List Ob}
/-- rows that are made, none of them with a number -/
theorem St.makeAtE (h : St w W L) (N : Nat) (hN : N ≤ 1048576) {b : Nat} (hb : b = W.heap.size) : St w (W.alloc (.cells (madeCells #[.slice none 0 0] N) 24 (0, 0))) (obS (Kd.slice 3 (Kd.int .i64)) 24 w (fun k => k = b) (.slice (some ⟨b, 0, none⟩) N N) (List.replicate N []) :: L) := by
  subst hb
  have e1 : (W.alloc (.cells (madeCells #[.slice none 0 0] N) 24 (0, 0))).heap.size = W.heap.size + 1 := by show (W.heap.push _).size = _; exact Array.size_push ..
  have hrep := Kd.reps_made (R := fun (x : List Int) cs => (Kd.slice 3 (Kd.int .i64)).M (W.alloc (.cells (madeCells #[.slice none 0 0] N) 24 (0, 0))) w.heap.size (fun _ => False) x cs) (z := .slice none 0 0) (size := 1) (z0 := []) rfl (by decide) ⟨_, rfl, Kd.R_nil _ _ _ _ _⟩ N
  have hsz : (madeCells #[Value.slice none 0 0] N).size = N := by simp [size_madeCells]
  refine h.add (o := obS (Kd.slice 3 (Kd.int .i64)) 24 w (fun k => k = W.heap.size) (.slice (some ⟨W.heap.size, 0, none⟩) N N) (List.replicate N [])) (below_alloc (Below.refl _ _) _) (fun k hk => ?_) (Kd.S_bare ⟨fun k hk => ?_, (madeCells #[.slice none 0 0] N).toList, ⟨?_, .inr ⟨W.heap.size, N, madeCells #[.slice none 0 0] N, ?_, h.below.size, ?_, ?_, ?_, ?_, ?_⟩⟩, ?_⟩) firmS
  · have h1 : k = W.heap.size := hk
    omega
  · simpa [Value.ownBlock] using hk.symm
  · show (madeCells #[Value.slice none 0 0] N).toList.length = (List.replicate N ([] : List Int)).length * 1
    simp [size_madeCells]
  · simp
  · show (W.heap.push _)[W.heap.size]? = _
    exact Array.getElem?_push_size
  · simp
  · unfold maxLen; omega
  · show _ = N * 1
    rw [hsz, Nat.mul_one]
  · show (madeCells #[Value.slice none 0 0] N).toList.take ((List.replicate N ([] : List Int)).length * 1) = _
    rw [List.length_replicate, Nat.mul_one]
    exact List.take_of_length_le (by rw [Array.length_toList, hsz]; exact Nat.le_refl _)
  · have := hrep
    rw [Nat.mul_one] at this
    exact this
theorem St.boxE2 (h : St w W L) (cs : Array Value) (t : Nat) {b : Nat} (hb : b = W.heap.size) : St w (W.alloc (.cells cs t (0, 0))) (obB b cs t :: L) := by
  subst hb
  exact St.box h cs t
end
section
variable {ops : Array Oper} {oi : Oper} {a : Act} {Q : Exit → Act → World → Prop} {Kc : Act → World → Prop} {w W : World} {L : List Ob} {ok : Nat → Prop} {v : Value} {xs : List (List Int)}
/-- append(rows[i], x), ahead of the store into rows[i], in a region that draws -/
theorem St.growRow_step (hw_ : Region.wanted oi (yielded ops a.tmps) = true) (s y : Operand) (ho : oi.op = .call { callee := .builtin .append, args := #[s, y], argTypes := #[24, 24] }) {x : Int}
    (h : St w W L) (n : Nat) (hn : L[n]? = some (obS (Kd.slice 3 (Kd.int .i64)) 24 w ok v xs)) (i : Nat) (hi : i < xs.length) {r : List Int} (hr : xs[i] = r) {g c c1 : Nat} {A1 : Option Addr} (hv : v = .slice (some ⟨g, 0, none⟩) xs.length c) (hc : W.cell? ⟨g, i, none⟩ = some (.slice A1 r.length c1))
    (hs : a.eval s = .slice A1 r.length c1) (hx : a.eval y = .slice (some ⟨W.heap.size, 0, none⟩) 1 1) (hl : (r.length + 1) * 8 ≤ 140737488355328)
    (hk : ∀ A2 c2 w1, w1.cell? ⟨g, i, none⟩ = some (.slice A1 r.length c1) → w1.frozen? ⟨g, i, none⟩ = false → (∀ j o, j ≠ n → L[j]? = some o → o.P w1) → (∃ ok2, St w (w1.setCell ⟨g, i, none⟩ (.slice A2 (r.length + 1) c2)) (L.set n (obS (Kd.slice 3 (Kd.int .i64)) 24 w ok2 v (xs.set i (r ++ [x]))))) → Kc (a.put oi.dst (.slice A2 (r.length + 1) c2)) w1) :
    if Region.wanted oi (yielded ops a.tmps) = true then Oper.wp Try.prog oi a (W.alloc (.cells #[.int .i64 x] 3)) Kc Q else Kc (a.put oi.dst undef) (W.alloc (.cells #[.int .i64 x] 3)) := by
  subst hv hr
  have hS : Kd.S (Kd.slice 3 (Kd.int .i64)) 24 W w.heap.size ok (.slice (some ⟨g, 0, none⟩) xs.length c) xs := h.get n hn
  have hw := (h.own _ (List.mem_of_getElem? hn)).1
  have hgok : ok g := (Kd.S_R hS).1 g (by simp [Value.ownBlock])
  have hgb : w.heap.size ≤ g := Kd.R_base (Kd.S_R hS) g (by simp [Value.ownBlock])
  obtain ⟨oki, cs, hcl, hM, hcc, hfr, hoki, hH⟩ := Kd.S_elem hS [] (i : Int) (by omega) (by omega)
  have ex : xs.getD (i : Int).toNat [] = xs[i] := by rw [Int.toNat_natCast, List.getD_eq_getElem?_getD, List.getElem?_eq_getElem hi]; rfl
  rw [ex] at hM
  obtain ⟨u, rfl, hR⟩ := hM
  have ei : (i : Int).toNat * (Kd.slice 3 (Kd.int .i64)).sz + 0 = i := by show (i : Int).toNat * 1 + 0 = i; omega
  have hx1 := hcc 0 _ rfl
  rw [ei, hc] at hx1
  injection hx1 with hx1
  subst hx1
  refine Kd.R_append_step (Kd.int .i64) (w0 := w) w.heap.size hw_ s y 24 3 (.int .i64 0) 8 ho Try.underlying24 info3 rfl (by decide) (by omega) (.slice A1 xs[i].length c1) xs[i] x [.int .i64 x] (fun k => oki k ∨ W.heap.size ≤ k) (fun _ => False) hs hx rfl (fun _ h => h.elim) (fun _ h => .inr h) (Kd.R_mono hR (fun k hk => .inl hk)) h.below h.below.size hl ?_
  intro v1 w1 hR1 hB hg hat
  obtain ⟨A2, c2, e2⟩ := Kd.R_slice hR1
  subst e2
  have hne : some g ≠ (Value.slice A1 xs[i].length c1).ownBlock := fun e => (hoki g (hR.1 g e.symm)).2 rfl
  have hH1 : Kd.H (Kd.slice 3 (Kd.int .i64)) 24 w1 w.heap.size (fun k => ok k ∨ W.heap.size ≤ k) (.slice (some ⟨g, 0, none⟩) xs.length c) xs (i : Int) (fun k => oki k ∨ (ok k ∨ W.heap.size ≤ k) ∧ W.heap.size ≤ k) [.slice A1 xs[i].length c1] := by
    have := Kd.H_widen (Kd.H_mono hH (fun k hk => (.inl hk : ok k ∨ W.heap.size ≤ k)))
    have h3 := Kd.H_grown this hg (fun k e => .inl (hR.1 k e))
    exact h3
  obtain ⟨hc7, hf7⟩ := Kd.H_at hH1 (show (0 : Int) ≤ (i : Int) by omega) (show (i : Int) < (xs.length : Int) by omega)
  have hx7 := hc7 0 _ rfl
  have hy7 := hf7 0
  rw [ei] at hx7 hy7
  rw [show (xs[i] ++ [x]).length = xs[i].length + 1 by simp] at hR1 ⊢
  have hPo : ∀ j o, j ≠ n → L[j]? = some o → o.P w1 := fun j o hj ho => by
    obtain ⟨_, h2, h3⟩ := h.own o (List.mem_of_getElem? ho)
    refine h3 W w1 h2 (fun k hk hlt => hg.block k hlt (fun e => ?_))
    have hk2 : ok k := (hoki k (hR.1 k e.symm)).1
    obtain ⟨hnl, hnn⟩ := List.getElem?_eq_some_iff.1 hn
    obtain ⟨hjl, hjj⟩ := List.getElem?_eq_some_iff.1 ho
    rcases Nat.lt_or_gt_of_ne hj with hlt2 | hlt2
    · have := List.pairwise_iff_getElem.1 h.apart j n hjl hnl hlt2 k
      rw [hjj, hnn] at this
      exact this hk hk2
    · have := List.pairwise_iff_getElem.1 h.apart n j hnl hjl hlt2 k
      rw [hjj, hnn] at this
      exact this hk2 hk
  refine hk A2 c2 w1 hx7 hy7 hPo ⟨fun k => (ok k ∨ W.heap.size ≤ k) ∧ w.heap.size ≤ k ∧ k < w1.heap.size, ?_⟩
  have h2 := Kd.S_seg0 hH1 (show (0 : Int) ≤ (i : Int) by omega) (show (i : Int) < (xs.length : Int) by omega) (seg := [.slice A2 (xs[i].length + 1) c2]) (j := 0) (show 1 ≤ 1 from by decide) (x' := xs[i] ++ [x]) (okp := fun k => oki k ∨ W.heap.size ≤ k) ⟨.slice A2 (xs[i].length + 1) c2, rfl, hR1⟩ (fun k hk => hk.imp id (fun h => ⟨.inr h, h⟩))
  rw [ei, Int.toNat_natCast] at h2
  have hz := hg.size
  refine St.redo1 (o' := obS _ _ w _ _ _) h n hn ⟨Nat.le_trans hg.size h2.2.size, fun k hk hne => ?_⟩ (below_set hB hgb) ⟨fun k hk => ⟨hk.1, hk.2.1, Nat.lt_of_lt_of_le hk.2.2 h2.2.size⟩, Kd.S_mono (Kd.S_bound h2.1) (fun k hk => ⟨hk.1, hk.2.1, ?_⟩), firmS⟩
  · exact (h2.2.block k (Nat.lt_of_lt_of_le hk hz) (fun e => hne (by cases e; exact hgok))).trans (hg.block k hk (fun e => hne (hoki k (hR.1 k e.symm)).1))
  · have := hk.2.2.1
    have e3 : (w1.setCell ⟨g, i, none⟩ (.slice A2 (xs[i].length + 1) c2)).heap.size = w1.heap.size := by simp [World.setCell]
    have e4 : (w1.setCells g i [.slice A2 (xs[i].length + 1) c2]).heap.size = w1.heap.size := e3
    omega
end
theorem keep3 {w W : World} {a b c : Addr} {x y z : Value} (h : Below w.heap.size w W) (h1 : w.cell? a = some x) (h2 : w.cell? b = some y) (h3 : w.cell? c = some z) : W.cell? a = some x ∧ W.cell? b = some y ∧ W.cell? c = some z := ⟨pw_cell_below h h1, pw_cell_below h h2, pw_cell_below h h3⟩
theorem chainRows_one (C : List (List Int)) : chainRows C 1 = List.replicate (lastLen C) [] := by
  have h0 : ∀ i, grows C 0 i = false := fun i => by unfold grows; simp
  unfold chainRows
  rw [List.eq_replicate_iff]
  refine ⟨by simp, fun b hb => ?_⟩
  obtain ⟨i, _, rfl⟩ := List.mem_map.1 hb
  simp [chainRow, h0]
/-- the rows in the midst of step k -/
def midRows (C : List (List Int)) (k i : Nat) : List (List Int) := (List.range (lastLen C)).map (fun j => if j < i then chainRow C (k + 1) j else chainRow C k j)
theorem midRows_length (C : List (List Int)) (k i : Nat) : (midRows C k i).length = lastLen C := by simp [midRows]
theorem midRows_zero (C : List (List Int)) (k : Nat) : midRows C k 0 = chainRows C k := by simp [midRows, chainRows]
theorem midRows_last (C : List (List Int)) (k : Nat) : midRows C k (lastLen C) = chainRows C (k + 1) := by
  unfold midRows chainRows
  refine List.map_congr_left (fun j hj => ?_)
  rw [if_pos (List.mem_range.1 hj)]
theorem midRows_get (C : List (List Int)) (k i : Nat) (h : i < (midRows C k i).length) : (midRows C k i)[i] = chainRow C k i := by simp [midRows]
theorem midRows_step (C : List (List Int)) (k i : Nat) : midRows C k (i + 1) = (midRows C k i).set i (chainRow C (k + 1) i) := by
  refine List.ext_getElem (by simp [midRows]) fun j h1 h2 => ?_
  rw [List.getElem_set]
  simp only [midRows, List.getElem_map, List.getElem_range]
  by_cases e : i = j
  · subst e; rw [if_pos (by omega), if_pos rfl]
  · rw [if_neg e]
    by_cases h3 : j < i
    · rw [if_pos (by omega), if_pos h3]
    · rw [if_neg (by omega), if_neg h3]
theorem midRows_same (C : List (List Int)) (k i : Nat) (h : grows C k i = false) : midRows C k (i + 1) = midRows C k i := by
  have e : chainRow C (k + 1) i = chainRow C k i := by simp [chainRow, h]
  rw [midRows_step, e]
  refine List.ext_getElem (by simp) fun j h1 h2 => ?_
  rw [List.getElem_set]
  by_cases e2 : i = j
  · subst e2; rw [if_pos rfl, midRows_get]
  · rw [if_neg e2]
def tabChain11.T : Bool × List (List Nat × List Nat) := (true, [([], []), ([0], [0]), ([], []), ([], []), ([3], [3]), ([], []), ([4, 5], [4, 5]), ([6], [6]), ([], []), ([8], [8]), ([7, 9], [7, 9]), ([1, 2, 0, 1, 2, 3, 4, 5, 6, 7, 8, 9, 10], [1, 2]), ([11, 10, 10, 0, 1, 2, 3, 4, 5, 6, 7, 8, 9, 10], [10, 11])])
def tabChain11.B : List Nat := [0, 1, 0, 0, 8, 0, 56, 120, 0, 256, 1016, 2047, 4095]
theorem tabChain11.tab : rtab .any (opsOf Try.f10 11) = tabChain11.T := by kernel_rfl
theorem tabChain11.bits : waitsOk tabChain11.T.2 tabChain11.B = true := by kernel_rfl
set_option maxHeartbeats 16000000 in
set_option maxRecDepth 100000 in
theorem tabChain_calls (A0 : Option Addr) (c0 : Nat) (C : List (List Int)) (w : World) (hr : Kd.C (Kd.slice 3 (Kd.int .i64)) w A0 C.length C) (hc : C.length ≤ c0) (hl : C.length ≤ 1048576) (hrow : ∀ r ∈ C, r.length ≤ 1048576) :
    Calls Try.prog 10 #[.slice A0 C.length c0] w fun e w' => ∃ v0 v1, e = .returned (.tuple #[.agg #[v0, v1], .bool (tabChain C).2.2]) ∧ Kd.R (Kd.int .i64) 3 w' w.heap.size (fun _ => True) v0 (tabChain C).1 ∧ Kd.S (Kd.slice 3 (Kd.int .i64)) 24 w' w.heap.size (fun k_ => some k_ ≠ (v0 : Value).ownBlock) v1 (tabChain C).2.1 ∧ Below w.heap.size w w' := by
  have C0 := Aside0.mk hr
  have H0 := Aside0.mk (St.start w)
  by_cases h1 : C.length = 0
  · have e : tabChain C = ([], [], false) := by unfold tabChain; rw [if_neg (fun g => by omega)]
    rw [e]
    have hb0 : ((C.length : Int) == 0) = true := beq_iff_eq.mpr (by omega)
    clear e hr h1
    go_enter Try.func10, Try.ntmps10
    go_wp2_with ((with_reducible refine gate_dst (N := 2) rfl ?_); refine zX (N := 2) (cs := #[.slice none 0 0, .slice none 0 0]) (t := 26) ?_; intro b2 hb2 wb2 hxb2 hlb2; have H1 := Aside0.mk (St.addB H0.out hxb2 hb2 hlb2); clear hxb2 hlb2 hb2; have z2_0 : wb2.cell? ⟨b2, 0, none⟩ = some (.slice none 0 0) := St.cellB H1.out 0 rfl 0 rfl; have z2_1 : wb2.cell? ⟨b2, 1, none⟩ = some (.slice none 0 0) := St.cellB H1.out 0 rfl 1 rfl; have f2_0 := blk_frozen (St.heapB H1.out 0 rfl) 0; have f2_1 := blk_frozen (St.heapB H1.out 0 rfl) 1)
    have HZ9 := Aside0.mk (St.putB (St.putB H1.out 0 rfl 0 (.slice none 0 0) rfl) 0 rfl 1 (.slice none 0 0) rfl)
    refine bodyPost_ret (results_ct rfl _ _ b2 26 #[.slice none 0 0, .slice none 0 0] (0, 0) _ rfl (St.heapB HZ9.out 0 rfl) Try.underlying26 rfl (by kernel_rfl)) rfl ?_
    exact ⟨_, _, rfl, Kd.R_nil _ _ _ _ _, Kd.S_nil _ _ _ _ _, HZ9.out.below⟩
  by_cases h10 : 10 < C.length
  · have e : tabChain C = ([], [], false) := by unfold tabChain; rw [if_neg (fun g => by omega)]
    rw [e]
    have hb0 : ((C.length : Int) == 0) = false := beq_eq_false_iff_ne.mpr (by omega)
    have hb10 : decide (10 < (C.length : Int)) = true := decide_eq_true (by omega)
    clear e hr h1
    go_enter Try.func10, Try.ntmps10
    go_wp2_with ((with_reducible refine gate_dst (N := 2) rfl ?_); refine zX (N := 2) (cs := #[.slice none 0 0, .slice none 0 0]) (t := 26) ?_; intro b2 hb2 wb2 hxb2 hlb2; have H1 := Aside0.mk (St.addB H0.out hxb2 hb2 hlb2); clear hxb2 hlb2 hb2; have z2_0 : wb2.cell? ⟨b2, 0, none⟩ = some (.slice none 0 0) := St.cellB H1.out 0 rfl 0 rfl; have z2_1 : wb2.cell? ⟨b2, 1, none⟩ = some (.slice none 0 0) := St.cellB H1.out 0 rfl 1 rfl; have f2_0 := blk_frozen (St.heapB H1.out 0 rfl) 0; have f2_1 := blk_frozen (St.heapB H1.out 0 rfl) 1)
    have HZ9 := Aside0.mk (St.putB (St.putB H1.out 0 rfl 0 (.slice none 0 0) rfl) 0 rfl 1 (.slice none 0 0) rfl)
    refine bodyPost_ret (results_ct rfl _ _ b2 26 #[.slice none 0 0, .slice none 0 0] (0, 0) _ rfl (St.heapB HZ9.out 0 rfl) Try.underlying26 rfl (by kernel_rfl)) rfl ?_
    exact ⟨_, _, rfl, Kd.R_nil _ _ _ _ _, Kd.S_nil _ _ _ _ _, HZ9.out.below⟩
  have hb0 : ((C.length : Int) == 0) = false := beq_eq_false_iff_ne.mpr (by omega)
  have hb10 : decide (10 < (C.length : Int)) = false := decide_eq_false (by omega)
  have hT := Aside0.mk (tabChain_iff (C := C) (by omega) (by omega))
  obtain ⟨ad, A1, c1, e1, hx0, hl1, hi1⟩ := at_L1 hr (0 : Int) (by omega) (by omega)
  obtain ⟨ad2, A2, c2, e2, hx1, hl2, hi2⟩ := at_L1 hr ((C.length - 1 : Nat) : Int) (by omega) (by omega)
  subst e1
  injection e2 with e2
  subst e2
  rw [Int.toNat_natCast] at hx1
  have hNN : (rd_L1 C ((C.length - 1 : Nat) : Int)).length = lastLen C := rfl
  rw [hNN] at hx1
  obtain ⟨N, hN⟩ : ∃ N, N = lastLen C := ⟨_, rfl⟩
  have hN20 : N ≤ 1048576 := by rw [hN]; exact hrow _ (rows_mem C (C.length - 1) (by omega))
  rw [← hN] at hx1
  obtain ⟨p0, hp0⟩ : ∃ p, p = rd_L1 C 0 := ⟨_, rfl⟩
  have hp20 : p0.length ≤ 1048576 := by rw [hp0]; exact hrow _ (rows_mem C 0 (by omega))
  rw [← hp0] at hx0 hl1 hi1
  obtain ⟨K1, hK1⟩ : ∃ K1, K1 = C.length - 1 := ⟨_, rfl⟩
  have eK : IntKind.i64.wrap ((C.length : Int) - 1) = (K1 : Int) := by rw [IntWalk.i64_in _ (by omega)]; omega
  have hK0 : (0 : Int) ≤ (K1 : Int) := by omega
  have hKl : (K1 : Int) < (C.length : Int) := by omega
  have hCl : (0 : Int) < (C.length : Int) := by omega
  rw [← hK1] at hx1
  have hmk : ∀ W : World, (Instr.makeSlice 22 (.int .i64 (N : Int)) (.int .i64 (N : Int))).run Try.prog W = .ok (.slice (some ⟨W.heap.size, 0, none⟩) N N) (W.alloc (.cells (madeCells #[.slice none 0 0] N) 24 (0, 0))) := fun W => by
    have h := run_make_row' (P := Try.prog) 22 24 (.slice none 0 0) 24 Try.underlying22 info24 rfl .i64 .i64 N (by omega) (by omega) W
    simpa using h
  have HX0 := Aside0.mk hx0
  have HX1 := Aside0.mk hx1
  have CP0 := Aside0.mk hi1
  have HN := Aside0.mk hN
  have HP0 := Aside0.mk hp0
  have hCB : C.length ≤ 10 := by omega
  have hC1 : 1 ≤ C.length := by omega
  clear hi1 hi2 hl2 hNN hN hp0 hr h1 h10
  have hea : ad.add 0 = ad := by cases ad; simp [Addr.add]
  have hx0' : w.cell? ad = some (.slice A1 p0.length c1) := by rw [← hea]; exact HX0.out
  have hCl2 : 0 < C.length := by omega
  have hCl3 : C ≠ [] := fun e => by rw [e] at hCl2; simp at hCl2
  obtain ⟨R1, R2, R3, hR⟩ : ∃ a b c, tabChain C = (a, b, c) := ⟨_, _, _, rfl⟩
  rw [hR]
  have HRR := Aside0.mk hR
  clear hR
  go_enter Try.func10, Try.ntmps10
  go_wp2_with ((with_reducible refine gate_dst (N := 2) rfl ?_); refine zX (N := 2) (cs := #[.slice none 0 0, .slice none 0 0]) (t := 26) ?_; intro b2 hb2 wb2 hxb2 hlb2; have H1 := Aside0.mk (St.addB H0.out hxb2 hb2 hlb2); clear hxb2 hlb2 hb2)
  have HD := Aside0.mk (H1.out.quiet (below_drew (Below.refl _ _)))
  clear hK1
  go_cut [4] (fun s4 wx => ∃ (b g5 c9 : Nat) (A9 : Option Addr) (okc okr : Nat → Prop), s4 = .pointer (some ⟨b, 0, none⟩) ∧ St w wx [obB b #[.slice A9 p0.length c9, .slice (some ⟨g5, 0, none⟩) N N] 26, obR (Kd.int .i64) 3 w okc (.slice A9 p0.length c9) p0, obS (Kd.slice 3 (Kd.int .i64)) 24 w okr (.slice (some ⟨g5, 0, none⟩) N N) (List.replicate N []), obB b2 #[.slice none 0 0, .slice none 0 0] 26])
  case first =>
    go_region_held3 (fun W => W.cell? (ad.add 0) = some (.slice A1 p0.length c1) ∧ W.cell? ad = some (.slice A1 p0.length c1) ∧ W.cell? (ad.add K1) = some (.slice A2 N c2)) (first
      | exact keep3 (St.below HD.out) HX0.out hx0' HX1.out
      | exact keep3 (St.below HC.out) HX0.out hx0' HX1.out
      | exact keep3 (St.below (St.quiet (St.makeAtE H1.out N hN20 (b := wb2.heap.size) rfl) (below_drew (Below.refl _ _)))) HX0.out hx0' HX1.out
      | exact keep3 (St.below (St.quiet (St.boxE2 H1.out #[.slice none 0 0, .slice none 0 0] 26 (b := wb2.heap.size) rfl) (below_drew (Below.refl _ _)))) HX0.out hx0' HX1.out
      | exact keep3 (St.below (St.makeAtE HC.out N hN20 (b := w9.heap.size) rfl)) HX0.out hx0' HX1.out
      | exact keep3 (St.below (St.boxE2 HC.out #[.slice none 0 0, .slice none 0 0] 26 (b := w9.heap.size) rfl)) HX0.out hx0' HX1.out
      | exact keep3 (St.below HCM.out) HX0.out hx0' HX1.out
      | exact keep3 (St.below (St.quiet (St.boxE2 (St.makeAtE H1.out N hN20 (b := wb2.heap.size) rfl) #[.slice none 0 0, .slice none 0 0] 26 (b := wb2.heap.size + 1) (by rw [World.size_alloc] <;> rfl)) (below_drew (Below.refl _ _)))) HX0.out hx0' HX1.out
      | exact keep3 (St.below HCB.out) HX0.out hx0' HX1.out
      | exact keep3 (St.below (St.quiet (St.makeAtE (St.boxE2 H1.out #[.slice none 0 0, .slice none 0 0] 26 (b := wb2.heap.size) rfl) N hN20 (b := wb2.heap.size + 1) (by rw [World.size_alloc] <;> rfl)) (below_drew (Below.refl _ _)))) HX0.out hx0' HX1.out
      | exact keep3 (St.below (St.boxE2 (St.makeAtE HC.out N hN20 (b := w9.heap.size) rfl) #[.slice none 0 0, .slice none 0 0] 26 (b := w9.heap.size + 1) (by rw [World.size_alloc] <;> rfl))) HX0.out hx0' HX1.out
      | exact keep3 (St.below (St.makeAtE (St.boxE2 HC.out #[.slice none 0 0, .slice none 0 0] 26 (b := w9.heap.size) rfl) N hN20 (b := w9.heap.size + 1) (by rw [World.size_alloc] <;> rfl))) HX0.out hx0' HX1.out
      | exact keep3 (St.below (St.boxE2 HCM.out #[.slice none 0 0, .slice none 0 0] 26 (b := w9.heap.size) rfl)) HX0.out hx0' HX1.out
      | exact keep3 (St.below HCMB.out) HX0.out hx0' HX1.out
      | exact keep3 (St.below (St.makeAtE HCB.out N hN20 (b := w9.heap.size) rfl)) HX0.out hx0' HX1.out
      | exact keep3 (St.below HCBM.out) HX0.out hx0' HX1.out
      | exact keep3 (St.below (St.boxE2 (St.makeAtE HC.out N hN20 (b := w9.heap.size) rfl) #[.slice A9 p0.length c9, .slice (some ⟨w9.heap.size, 0, none⟩) N N] 26 (b := w9.heap.size + 1) (by rw [World.size_alloc] <;> rfl))) HX0.out hx0' HX1.out
      | exact keep3 (St.below (St.makeAtE (St.boxE2 HC.out #[.slice A9 p0.length c9, .slice (some ⟨w9.heap.size + 1, 0, none⟩) N N] 26 (b := w9.heap.size) rfl) N hN20 (b := w9.heap.size + 1) (by rw [World.size_alloc] <;> rfl))) HX0.out hx0' HX1.out
      | exact keep3 (St.below (St.boxE2 HCM.out #[.slice A9 p0.length c9, .slice (some ⟨wb2.heap.size, 0, none⟩) N N] 26 (b := w9.heap.size) rfl)) HX0.out hx0' HX1.out
      | exact keep3 (St.below (St.putB (St.putB HCMB.out 1 rfl 0 (.slice A9 p0.length c9) rfl) 1 rfl 1 (.slice (some ⟨wb2.heap.size, 0, none⟩) N N) rfl)) HX0.out hx0' HX1.out
      | exact keep3 (St.below (St.putB (St.putB (St.makeAtE HCB.out N hN20 (b := w9.heap.size) rfl) 2 rfl 0 (.slice A9 p0.length c9) rfl) 2 rfl 1 (.slice (some ⟨w9.heap.size, 0, none⟩) N N) rfl)) HX0.out hx0' HX1.out
      | exact keep3 (St.below (St.putB (St.putB HCBM.out 2 rfl 0 (.slice A9 p0.length c9) rfl) 2 rfl 1 (.slice (some ⟨wb2.heap.size + 1, 0, none⟩) N N) rfl)) HX0.out hx0' HX1.out)
      (first
      | (go_at_call 34; (with_reducible refine (clone_st HD.out (St.came HD.out CP0.out hl1) (by omega)).mono ?_); rintro e w9 ⟨v9, ok9, rfl, h_⟩; have HC := Aside0.mk h_; clear h_; obtain ⟨A9, c9, rfl, _, _⟩ := HC.out.readR 0 rfl; have zb0_0 := St.cellB (St.boxE2 HC.out #[.slice none 0 0, .slice none 0 0] 26 (b := w9.heap.size) rfl) 0 rfl 0 rfl; have fb0_0 := blk_frozen (St.heapB (St.boxE2 HC.out #[.slice none 0 0, .slice none 0 0] 26 (b := w9.heap.size) rfl) 0 rfl) 0; have zb0_1 := St.cellB (St.boxE2 HC.out #[.slice none 0 0, .slice none 0 0] 26 (b := w9.heap.size) rfl) 0 rfl 1 rfl; have fb0_1 := blk_frozen (St.heapB (St.boxE2 HC.out #[.slice none 0 0, .slice none 0 0] 26 (b := w9.heap.size) rfl) 0 rfl) 1; have zb1_0 := St.cellB (St.boxE2 (St.makeAtE HC.out N hN20 (b := w9.heap.size) rfl) #[.slice none 0 0, .slice none 0 0] 26 (b := w9.heap.size + 1) (by rw [World.size_alloc] <;> rfl)) 0 rfl 0 rfl; have fb1_0 := blk_frozen (St.heapB (St.boxE2 (St.makeAtE HC.out N hN20 (b := w9.heap.size) rfl) #[.slice none 0 0, .slice none 0 0] 26 (b := w9.heap.size + 1) (by rw [World.size_alloc] <;> rfl)) 0 rfl) 0; have zb1_1 := St.cellB (St.boxE2 (St.makeAtE HC.out N hN20 (b := w9.heap.size) rfl) #[.slice none 0 0, .slice none 0 0] 26 (b := w9.heap.size + 1) (by rw [World.size_alloc] <;> rfl)) 0 rfl 1 rfl; have fb1_1 := blk_frozen (St.heapB (St.boxE2 (St.makeAtE HC.out N hN20 (b := w9.heap.size) rfl) #[.slice none 0 0, .slice none 0 0] 26 (b := w9.heap.size + 1) (by rw [World.size_alloc] <;> rfl)) 0 rfl) 1; have zb2_0 := St.cellB (St.makeAtE (St.boxE2 HC.out #[.slice none 0 0, .slice none 0 0] 26 (b := w9.heap.size) rfl) N hN20 (b := w9.heap.size + 1) (by rw [World.size_alloc] <;> rfl)) 1 rfl 0 rfl; have fb2_0 := blk_frozen (St.heapB (St.makeAtE (St.boxE2 HC.out #[.slice none 0 0, .slice none 0 0] 26 (b := w9.heap.size) rfl) N hN20 (b := w9.heap.size + 1) (by rw [World.size_alloc] <;> rfl)) 1 rfl) 0; have zb2_1 := St.cellB (St.makeAtE (St.boxE2 HC.out #[.slice none 0 0, .slice none 0 0] 26 (b := w9.heap.size) rfl) N hN20 (b := w9.heap.size + 1) (by rw [World.size_alloc] <;> rfl)) 1 rfl 1 rfl; have fb2_1 := blk_frozen (St.heapB (St.makeAtE (St.boxE2 HC.out #[.slice none 0 0, .slice none 0 0] 26 (b := w9.heap.size) rfl) N hN20 (b := w9.heap.size + 1) (by rw [World.size_alloc] <;> rfl)) 1 rfl) 1)
      | (go_at_call 34; (with_reducible refine (clone_st (St.quiet (St.makeAtE H1.out N hN20 (b := wb2.heap.size) rfl) (below_drew (Below.refl _ _))) (St.came (St.quiet (St.makeAtE H1.out N hN20 (b := wb2.heap.size) rfl) (below_drew (Below.refl _ _))) CP0.out hl1) (by omega)).mono ?_); rintro e w9 ⟨v9, ok9, rfl, h_⟩; have HCM := Aside0.mk h_; clear h_; obtain ⟨A9, c9, rfl, _, _⟩ := HCM.out.readR 0 rfl; have zb3_0 := St.cellB (St.boxE2 HCM.out #[.slice none 0 0, .slice none 0 0] 26 (b := w9.heap.size) rfl) 0 rfl 0 rfl; have fb3_0 := blk_frozen (St.heapB (St.boxE2 HCM.out #[.slice none 0 0, .slice none 0 0] 26 (b := w9.heap.size) rfl) 0 rfl) 0; have zb3_1 := St.cellB (St.boxE2 HCM.out #[.slice none 0 0, .slice none 0 0] 26 (b := w9.heap.size) rfl) 0 rfl 1 rfl; have fb3_1 := blk_frozen (St.heapB (St.boxE2 HCM.out #[.slice none 0 0, .slice none 0 0] 26 (b := w9.heap.size) rfl) 0 rfl) 1)
      | (go_at_call 34; (with_reducible refine (clone_st (St.quiet (St.boxE2 H1.out #[.slice none 0 0, .slice none 0 0] 26 (b := wb2.heap.size) rfl) (below_drew (Below.refl _ _))) (St.came (St.quiet (St.boxE2 H1.out #[.slice none 0 0, .slice none 0 0] 26 (b := wb2.heap.size) rfl) (below_drew (Below.refl _ _))) CP0.out hl1) (by omega)).mono ?_); rintro e w9 ⟨v9, ok9, rfl, h_⟩; have HCB := Aside0.mk h_; clear h_; obtain ⟨A9, c9, rfl, _, _⟩ := HCB.out.readR 0 rfl; have zb4_0 := St.cellB HCB.out 1 rfl 0 rfl; have fb4_0 := blk_frozen (St.heapB HCB.out 1 rfl) 0; have zb4_1 := St.cellB HCB.out 1 rfl 1 rfl; have fb4_1 := blk_frozen (St.heapB HCB.out 1 rfl) 1; have zb5_0 := St.cellB (St.makeAtE HCB.out N hN20 (b := w9.heap.size) rfl) 2 rfl 0 rfl; have fb5_0 := blk_frozen (St.heapB (St.makeAtE HCB.out N hN20 (b := w9.heap.size) rfl) 2 rfl) 0; have zb5_1 := St.cellB (St.makeAtE HCB.out N hN20 (b := w9.heap.size) rfl) 2 rfl 1 rfl; have fb5_1 := blk_frozen (St.heapB (St.makeAtE HCB.out N hN20 (b := w9.heap.size) rfl) 2 rfl) 1)
      | (go_at_call 34; (with_reducible refine (clone_st (St.quiet (St.boxE2 (St.makeAtE H1.out N hN20 (b := wb2.heap.size) rfl) #[.slice none 0 0, .slice none 0 0] 26 (b := wb2.heap.size + 1) (by rw [World.size_alloc] <;> rfl)) (below_drew (Below.refl _ _))) (St.came (St.quiet (St.boxE2 (St.makeAtE H1.out N hN20 (b := wb2.heap.size) rfl) #[.slice none 0 0, .slice none 0 0] 26 (b := wb2.heap.size + 1) (by rw [World.size_alloc] <;> rfl)) (below_drew (Below.refl _ _))) CP0.out hl1) (by omega)).mono ?_); rintro e w9 ⟨v9, ok9, rfl, h_⟩; have HCMB := Aside0.mk h_; clear h_; obtain ⟨A9, c9, rfl, _, _⟩ := HCMB.out.readR 0 rfl; have zb6_0 := St.cellB HCMB.out 1 rfl 0 rfl; have fb6_0 := blk_frozen (St.heapB HCMB.out 1 rfl) 0; have zb6_1 := St.cellB HCMB.out 1 rfl 1 rfl; have fb6_1 := blk_frozen (St.heapB HCMB.out 1 rfl) 1)
      | (go_at_call 34; (with_reducible refine (clone_st (St.quiet (St.makeAtE (St.boxE2 H1.out #[.slice none 0 0, .slice none 0 0] 26 (b := wb2.heap.size) rfl) N hN20 (b := wb2.heap.size + 1) (by rw [World.size_alloc] <;> rfl)) (below_drew (Below.refl _ _))) (St.came (St.quiet (St.makeAtE (St.boxE2 H1.out #[.slice none 0 0, .slice none 0 0] 26 (b := wb2.heap.size) rfl) N hN20 (b := wb2.heap.size + 1) (by rw [World.size_alloc] <;> rfl)) (below_drew (Below.refl _ _))) CP0.out hl1) (by omega)).mono ?_); rintro e w9 ⟨v9, ok9, rfl, h_⟩; have HCBM := Aside0.mk h_; clear h_; obtain ⟨A9, c9, rfl, _, _⟩ := HCBM.out.readR 0 rfl; have zb7_0 := St.cellB HCBM.out 2 rfl 0 rfl; have fb7_0 := blk_frozen (St.heapB HCBM.out 2 rfl) 0; have zb7_1 := St.cellB HCBM.out 2 rfl 1 rfl; have fb7_1 := blk_frozen (St.heapB HCBM.out 2 rfl) 1))
    all_goals (go_wp2_with fail; go_meet; first
      | exact ⟨_, _, _, _, _, _, rfl, (St.perm_ (St.boxE2 (St.makeAtE HC.out N hN20 (b := w9.heap.size) rfl) #[.slice A9 p0.length c9, .slice (some ⟨w9.heap.size, 0, none⟩) N N] 26 (b := w9.heap.size + 1) (by rw [World.size_alloc] <;> rfl)) (List.Perm.cons _ (List.Perm.swap _ _ _)))⟩
      | exact ⟨_, _, _, _, _, _, rfl, (St.perm_ (St.perm_ (St.makeAtE (St.boxE2 HC.out #[.slice A9 p0.length c9, .slice (some ⟨w9.heap.size + 1, 0, none⟩) N N] 26 (b := w9.heap.size) rfl) N hN20 (b := w9.heap.size + 1) (by rw [World.size_alloc] <;> rfl)) (List.Perm.swap _ _ _)) (List.Perm.cons _ (List.Perm.swap _ _ _)))⟩
      | exact ⟨_, _, _, _, _, _, rfl, (St.boxE2 HCM.out #[.slice A9 p0.length c9, .slice (some ⟨wb2.heap.size, 0, none⟩) N N] 26 (b := w9.heap.size) rfl)⟩
      | exact ⟨_, _, _, _, _, _, rfl, (St.perm_ (St.putB (St.putB HCMB.out 1 rfl 0 (.slice A9 p0.length c9) rfl) 1 rfl 1 (.slice (some ⟨wb2.heap.size, 0, none⟩) N N) rfl) (List.Perm.swap _ _ _))⟩
      | exact ⟨_, _, _, _, _, _, rfl, (St.perm_ (St.perm_ (St.perm_ (St.putB (St.putB (St.makeAtE HCB.out N hN20 (b := w9.heap.size) rfl) 2 rfl 0 (.slice A9 p0.length c9) rfl) 2 rfl 1 (.slice (some ⟨w9.heap.size, 0, none⟩) N N) rfl) (List.Perm.cons _ (List.Perm.swap _ _ _))) (List.Perm.swap _ _ _)) (List.Perm.cons _ (List.Perm.swap _ _ _)))⟩
      | exact ⟨_, _, _, _, _, _, rfl, (St.perm_ (St.perm_ (St.putB (St.putB HCBM.out 2 rfl 0 (.slice A9 p0.length c9) rfl) 2 rfl 1 (.slice (some ⟨wb2.heap.size + 1, 0, none⟩) N N) rfl) (List.Perm.cons _ (List.Perm.swap _ _ _))) (List.Perm.swap _ _ _))⟩)
  obtain ⟨b, g5, c9, A9, okc, okr0, rfl, HF⟩ := hcut
  have H2 := Aside0.mk HF
  clear HF H1 HD hmk hx0'
  go_wp2
  go_loopg [5] C.length (fun kq v5 wr => ∃ (k : Nat) (okr : Nat → Prop), 1 ≤ k ∧ k ≤ C.length ∧ C.length - k ≤ kq ∧ v5 = .int .i64 (k : Int) ∧ Aside0 (St w wr [obB b #[.slice A9 p0.length c9, .slice (some ⟨g5, 0, none⟩) N N] 26, obR (Kd.int .i64) 3 w okc (.slice A9 p0.length c9) p0, obS (Kd.slice 3 (Kd.int .i64)) 24 w okr (.slice (some ⟨g5, 0, none⟩) N N) (chainRows C k), obB b2 #[.slice none 0 0, .slice none 0 0] 26]))
  case atStart => exact ⟨1, okr0, Nat.le_refl _, hC1, by omega, rfl, ⟨by rw [chainRows_one, ← HN.out]; exact H2.out⟩⟩
  case round =>
    clear H2 H0
    obtain ⟨k, okr, hk1, hk, hg, rfl, HS⟩ := hrel
    by_cases hlt : k < C.length
    · have hltz : (k : Int) < (C.length : Int) := by omega
      have z1 : wr.cell? ⟨b, 1, none⟩ = some (.slice (some ⟨g5, 0, none⟩) N N) := St.cellB HS.out 0 rfl 1 rfl
      have HS2 := Aside0.mk (show St w wr [obB b #[.slice A9 p0.length c9, .slice (some ⟨g5, 0, none⟩) N N] 26, obR (Kd.int .i64) 3 w okc (.slice A9 p0.length c9) p0, obS (Kd.slice 3 (Kd.int .i64)) 24 w okr (.slice (some ⟨g5, 0, none⟩) N N) (midRows C k 0), obB b2 #[.slice none 0 0, .slice none 0 0] 26] by rw [midRows_zero]; exact HS.out)
      clear HS
      go_wp2
      go_loopg [38] N (fun kq v38 wr => ∃ (i : Nat) (okr : Nat → Prop), i ≤ N ∧ N - i ≤ kq ∧ v38 = .int .i64 (i : Int) ∧ Aside0 (St w wr [obB b #[.slice A9 p0.length c9, .slice (some ⟨g5, 0, none⟩) N N] 26, obR (Kd.int .i64) 3 w okc (.slice A9 p0.length c9) p0, obS (Kd.slice 3 (Kd.int .i64)) 24 w okr (.slice (some ⟨g5, 0, none⟩) N N) (midRows C k i), obB b2 #[.slice none 0 0, .slice none 0 0] 26]))
      case atStart => exact ⟨0, okr, Nat.zero_le _, by omega, rfl, HS2⟩
      case round =>
        clear HS2 z1
        obtain ⟨i, okr, hi, hg2, rfl, HS⟩ := hrel
        by_cases hlt2 : i < N
        · have hltz2 : (i : Int) < (N : Int) := by omega
          obtain ⟨ad3, Ak, ck, e3, hx3, hl3, hi3⟩ := at_L1 C0.out (k : Int) (by omega) hltz
          obtain ⟨ad4, Aj, cj, e4, hx4, hl4, hi4⟩ := at_L1 C0.out ((k - 1 : Nat) : Int) (by omega) (by omega)
          injection e3 with e3
          subst e3
          injection e4 with e4
          subst e4
          rw [Int.toNat_natCast] at hx3 hx4
          have hr3 := hrow _ (rows_mem C k hlt)
          have hr4 := hrow _ (rows_mem C (k - 1) (by omega))
          have hgr : grows C k i = decide (at0 (rd_L1 C ((k - 1 : Nat) : Int)) (i : Int) < at0 (rd_L1 C (k : Int)) (i : Int)) := by unfold grows; rw [decide_eq_decide]; exact ⟨fun e => e.2, fun e => ⟨hk1, e⟩⟩
          obtain ⟨pk, hpk⟩ : ∃ p, p = rd_L1 C (k : Int) := ⟨_, rfl⟩
          obtain ⟨pj, hpj⟩ : ∃ p, p = rd_L1 C ((k - 1 : Nat) : Int) := ⟨_, rfl⟩
          rw [← hpk] at hx3 hl3 hi3 hr3 hgr
          rw [← hpj] at hx4 hl4 hi4 hr4 hgr
          obtain ⟨x, hx⟩ : ∃ x, at0 pk (i : Int) = x := ⟨_, rfl⟩
          obtain ⟨y, hy⟩ : ∃ y, at0 pj (i : Int) = y := ⟨_, rfl⟩
          rw [hx, hy] at hgr
          have e49 : IntKind.i64.wrap ((k : Int) - 1) = ((k - 1 : Nat) : Int) := by rw [IntWalk.i64_in _ (by omega)]; omega
          have hk0z : (0 : Int) ≤ (k : Int) := by omega
          have hj0z : (0 : Int) ≤ ((k - 1 : Nat) : Int) := by omega
          have hjz : ((k - 1 : Nat) : Int) < (C.length : Int) := by omega
          have HX := Aside0.mk hx
          have HY := Aside0.mk hy
          have HX3 := Aside0.mk hx3
          have HX4 := Aside0.mk hx4
          have CK := Aside0.mk hi3
          have CJ := Aside0.mk hi4
          have HGR := Aside0.mk hgr
          obtain ⟨j, hj⟩ : ∃ j, j = k - 1 := ⟨_, rfl⟩
          rw [← hj] at e49 hj0z hjz HX4
          have HJ := Aside0.mk hj
          clear hx hy hx3 hx4 hi3 hi4 hgr hpk hpj hj
          have HD := Aside0.mk (HS.out.quiet (below_drew (Below.refl _ _)))
          clear HS
          go_upto_region 10 with fail
          go_cut [54] (fun s54 wx => s54 = .bool (decide (y < x)) ∧ St w wx [obB b #[.slice A9 p0.length c9, .slice (some ⟨g5, 0, none⟩) N N] 26, obR (Kd.int .i64) 3 w okc (.slice A9 p0.length c9) p0, obS (Kd.slice 3 (Kd.int .i64)) 24 w okr (.slice (some ⟨g5, 0, none⟩) N N) (midRows C k i), obB b2 #[.slice none 0 0, .slice none 0 0] 26])
          case first =>
            go_region_held3 (fun W => W.cell? (ad.add k) = some (.slice Ak pk.length ck) ∧ W.cell? (ad.add j) = some (.slice Aj pj.length cj)) (first
              | exact ⟨pw_cell_below HD.out.below HX3.out, pw_cell_below HD.out.below HX4.out⟩
              | exact ⟨pw_cell_below HA.out.below HX3.out, pw_cell_below HA.out.below HX4.out⟩
              | exact ⟨pw_cell_below HB.out.below HX3.out, pw_cell_below HB.out.below HX4.out⟩
              | exact ⟨pw_cell_below HAB.out.below HX3.out, pw_cell_below HAB.out.below HX4.out⟩
              | exact ⟨pw_cell_below HBA.out.below HX3.out, pw_cell_below HBA.out.below HX4.out⟩)
              (first
              | (go_at_call 35; (with_reducible refine (at_st HD.out (HD.out.came CK.out hl3) (i : Int) x HX.out hr3).mono ?_); rintro e wa ⟨rfl, h_⟩; have HA := Aside0.mk h_; clear h_)
              | (go_at_call 35; (with_reducible refine (at_st HD.out (HD.out.came CJ.out hl4) (i : Int) y HY.out hr4).mono ?_); rintro e wa ⟨rfl, h_⟩; have HB := Aside0.mk h_; clear h_)
              | (go_at_call 35; (with_reducible refine (at_st HA.out (HA.out.came CJ.out hl4) (i : Int) y HY.out hr4).mono ?_); rintro e wb ⟨rfl, h_⟩; have HAB := Aside0.mk h_; clear h_)
              | (go_at_call 35; (with_reducible refine (at_st HB.out (HB.out.came CK.out hl3) (i : Int) x HX.out hr3).mono ?_); rintro e wb ⟨rfl, h_⟩; have HBA := Aside0.mk h_; clear h_))
            all_goals (go_wp2_with fail; go_meet; first | exact ⟨rfl, HAB.out⟩ | exact ⟨rfl, HBA.out⟩)
          obtain ⟨rfl, HF⟩ := hcut
          have HF0 := Aside0.mk HF
          clear HF HD
          by_cases hyx : y < x
          · have hb := decide_eq_true hyx
            have hgt : Aside0 (grows C k i = true) := ⟨by rw [HGR.out]; exact hb⟩
            have E2 : Aside0 (midRows C k (i + 1) = (midRows C k i).set i (chainRow C k i ++ [(k : Int)])) := ⟨by rw [midRows_step]; simp only [chainRow]; rw [if_pos hgt.out]⟩
            go_wp2
            have HD2 := Aside0.mk (HF0.out.quiet (below_drew (Below.refl _ _)))
            clear HF0
            have hmi : i < (midRows C k i).length := by rw [midRows_length, ← HN.out]; exact hlt2
            have hget := midRows_get C k i hmi
            have hrl := chainRow_le (C := C) k i
            have hml := midRows_length C k i
            rw [← HN.out] at hml
            obtain ⟨M, hM⟩ : ∃ M, M = midRows C k i := ⟨_, rfl⟩
            rw [← hM] at E2 HD2 hml
            have hmi2 : i < M.length := by rw [hml]; exact hlt2
            have hget2 : M[i] = chainRow C k i := by subst hM; exact hget
            obtain ⟨row, hrw⟩ : ∃ r, r = chainRow C k i := ⟨_, rfl⟩
            rw [← hrw] at E2 hget2 hrl
            clear hget hmi
            obtain ⟨g_, c_, A6, k6, hv, hgb, hcg, hfg, hle6, hrd6, hne6, hput6, hcut6⟩ := St.lendS HD2.out 2 rfl i hmi2 hget2
            injection hv with ea_ el_ ec_
            injection ea_ with ea_
            injection ea_ with ea_ _ _
            subst ea_
            have z1 : wc.drew.cell? ⟨b, 1, none⟩ = some (.slice (some ⟨g5, 0, none⟩) N N) := St.cellB HD2.out 0 rfl 1 rfl
            have hvv : (Value.slice (some ⟨g5, 0, none⟩) N N) = .slice (some ⟨g5, 0, none⟩) M.length N := by rw [hml]
            have HVV := Aside0.mk hvv
            have HGET2 := Aside0.mk hget2
            have HMI2 := Aside0.mk hmi2
            have HRL := Aside0.mk hrl
            clear hvv hget2 hrl hml hM hrw
            clear hput6 hcut6 hne6 hrd6 hgb hle6 el_ ec_
            refine start_ (n := 13) (S := fun w' => w'.cell? ⟨b, 1, none⟩ = some (.slice (some ⟨g5, 0, none⟩) N N) ∧ w'.cell? ⟨g5, i, none⟩ = some (.slice A6 row.length k6)) (ds := [12]) #[false, false, false, false, false, false, false, false, false, false, false, false, false] (by kernel_rfl) rfl rfl ⟨z1, hcg⟩ (fun hHeld => ?_)
            refine with_tabW tabChain11.tab tabChain11.bits (fun HT_ HW_ => ?_)
            generalize wc.drew = wd at HD2 z1 hcg hfg hHeld ⊢
            refine pure_ (i := 0) (N := some 55) (v := ?_) (a' := ?_) #[true, false, false, false, false, false, false, false, false, false, false, false, false] rfl rfl (any_of HT_.out (by kernel_rfl)) (fun _ _ _ h => h) (Or.inl ⟨by rfl, ?_⟩) ?_ ?_
            rotate_left
            · intro w'
              go_simp
              with_reducible rfl
            rotate_left
            · simp only [Act.put, List.setIfInBounds_toArray, List.set_cons_zero, List.set_cons_succ, i64_w, i32_w]
              rfl
            refine pure_ (i := 2) (N := some 57) (v := ?_) (a' := ?_) #[true, false, true, false, false, false, false, false, false, false, false, false, false] rfl rfl (any_of HT_.out (by kernel_rfl)) (fun _ _ _ h => h) (Or.inl ⟨by rfl, ?_⟩) ?_ ?_
            rotate_left
            · intro w'
              go_simp
              with_reducible rfl
            rotate_left
            · simp only [Act.put, List.setIfInBounds_toArray, List.set_cons_zero, List.set_cons_succ, i64_w, i32_w]
              rfl
            refine pure_ (i := 3) (N := some 58) (v := ?_) (a' := ?_) #[true, false, true, true, false, false, false, false, false, false, false, false, false] rfl rfl (any_of HT_.out (by kernel_rfl)) (fun _ _ _ h => h) (Or.inl ⟨by rfl, ?_⟩) ?_ ?_
            rotate_left
            · intro w'
              go_simp
              with_reducible rfl
            rotate_left
            · simp only [Act.put, List.setIfInBounds_toArray, List.set_cons_zero, List.set_cons_succ, i64_w, i32_w]
              rfl
            refine pure_ (i := 5) (N := some 60) (v := ?_) (a' := ?_) #[true, false, true, true, false, true, false, false, false, false, false, false, false] rfl rfl (any_of HT_.out (by kernel_rfl)) (fun _ _ _ h => h) (Or.inl ⟨by rfl, ?_⟩) ?_ ?_
            rotate_left
            · intro w'
              go_simp
              with_reducible rfl
            rotate_left
            · simp only [Act.put, List.setIfInBounds_toArray, List.set_cons_zero, List.set_cons_succ, i64_w, i32_w]
              rfl
            refine pure_ (i := 8) (N := some 63) (v := ?_) (a' := ?_) #[true, false, true, true, false, true, false, false, true, false, false, false, false] rfl rfl (any_of HT_.out (by kernel_rfl)) (fun _ _ _ h => h) (Or.inl ⟨by rfl, ?_⟩) ?_ ?_
            rotate_left
            · intro w'
              go_simp
              with_reducible rfl
            rotate_left
            · simp only [Act.put, List.setIfInBounds_toArray, List.set_cons_zero, List.set_cons_succ, i64_w, i32_w]
              rfl
            refine take_ (i := 1) (N := some 56) (v := ?_) (a' := ?_) #[true, true, true, true, false, true, false, false, true, false, false, false, false] rfl rfl (take_ofW HT_.out HW_.out (by kernel_rfl)) (fun _ _ _ h => h) (Or.inl ⟨by rfl, ?_⟩) hHeld ?_ ?_
            rotate_left
            · rintro w' ⟨s0, s1⟩
              go_simp
              with_reducible rfl
            rotate_left
            · simp only [Act.put, List.setIfInBounds_toArray, List.set_cons_zero, List.set_cons_succ, i64_w, i32_w]
              rfl
            refine take_ (i := 4) (N := some 59) (v := ?_) (a' := ?_) #[true, true, true, true, true, true, false, false, true, false, false, false, false] rfl rfl (take_ofW HT_.out HW_.out (by kernel_rfl)) (fun _ _ _ h => h) (Or.inl ⟨by rfl, ?_⟩) hHeld ?_ ?_
            rotate_left
            · rintro w' ⟨s0, s1⟩
              go_simp
              with_reducible rfl
            rotate_left
            · simp only [Act.put, List.setIfInBounds_toArray, List.set_cons_zero, List.set_cons_succ, i64_w, i32_w]
              rfl
            refine pure_ (i := 6) (N := some 61) (v := ?_) (a' := ?_) #[true, true, true, true, true, true, true, false, true, false, false, false, false] rfl rfl (any_of HT_.out (by kernel_rfl)) (fun _ _ _ h => h) (Or.inl ⟨by rfl, ?_⟩) ?_ ?_
            rotate_left
            · intro w'
              go_simp
              with_reducible rfl
            rotate_left
            · simp only [Act.put, List.setIfInBounds_toArray, List.set_cons_zero, List.set_cons_succ, i64_w, i32_w]
              rfl
            refine take_ (i := 7) (N := some 62) (v := ?_) (a' := ?_) #[true, true, true, true, true, true, true, true, true, false, false, false, false] rfl rfl (take_ofW HT_.out HW_.out (by kernel_rfl)) (fun _ _ _ h => h) (Or.inl ⟨by rfl, ?_⟩) hHeld ?_ ?_
            rotate_left
            · rintro w' ⟨s0, s1⟩
              go_simp
              with_reducible rfl
            rotate_left
            · simp only [Act.put, List.setIfInBounds_toArray, List.set_cons_zero, List.set_cons_succ, i64_w, i32_w]
              rfl
            refine one_ (i := 9) (N := some 64) #[true, true, true, true, true, true, true, true, true, true, false, false, false] rfl rfl (one_of HT_.out (by kernel_rfl)) (by decide) (fun K hK => ?_)
            refine value_ (w1 := ?_) (v := ?_) (by rfl) rfl ?_ ?_
            rotate_left 2
            · go_simp
              constructor
              · rfl
              · rfl
            refine hK.out _ _ ⟨(World.cell?_alloc_lt _ _ _ (World.block_lt_of_cell? _ _ hHeld.1)).trans hHeld.1, (World.cell?_alloc_lt _ _ _ (World.block_lt_of_cell? _ _ hHeld.2)).trans hHeld.2⟩ (fun hHeld => ?_)
            clear hK K
            refine norm_ (a' := ?_) ?_ ?_
            rotate_left
            · show Act.put _ (some 64) _ = _
              simp only [Act.put, List.setIfInBounds_toArray, List.set_cons_zero, List.set_cons_succ, i64_w, i32_w]
              rfl
            refine one_ (i := 10) (N := some 65) #[true, true, true, true, true, true, true, true, true, true, true, false, false] rfl rfl (one_of HT_.out (by kernel_rfl)) (by decide) (fun K hK => ?_)
            refine St.growRow_step (x := (k : Int)) (by rfl) (.tmp 62) (.tmp 64) (by rfl) HD2.out 2 rfl i HMI2.out HGET2.out HVV.out hcg (by rfl) (by rfl) (by have := HRL.out; omega) ?_
            intro A7 k7 w9 hx9 hf9 hP9 h9
            have hB9 : w9.cell? ⟨b, 1, none⟩ = some (.slice (some ⟨g5, 0, none⟩) N N) := (blk_cell (hP9 0 _ (by decide) rfl) 1).trans rfl
            refine hK.out _ _ ⟨hB9, hx9⟩ (fun hHeld => ?_)
            clear hK K
            refine norm_ (a' := ?_) ?_ ?_
            rotate_left
            · show Act.put _ (some 65) _ = _
              simp only [Act.put, List.setIfInBounds_toArray, List.set_cons_zero, List.set_cons_succ, i64_w, i32_w]
              rfl
            refine pure_ (i := 11) (N := some 66) (v := ?_) (a' := ?_) #[true, true, true, true, true, true, true, true, true, true, true, true, false] rfl rfl (any_of HT_.out (by kernel_rfl)) (fun _ _ _ h => h) (Or.inl ⟨by rfl, ?_⟩) ?_ ?_
            rotate_left
            · intro w'
              go_simp
              with_reducible rfl
            rotate_left
            · simp only [Act.put, List.setIfInBounds_toArray, List.set_cons_zero, List.set_cons_succ, i64_w, i32_w]
              rfl
            refine last_ (i := 12) (N := none) #[true, true, true, true, true, true, true, true, true, true, true, true, true] rfl rfl (one_of HT_.out (by kernel_rfl)) (by decide) (fun K hK => ?_)
            refine skip_ (w1 := ?_) (by rfl) rfl ?_ ?_
            rotate_left
            · go_simp
              rfl
            refine hK.out _ _ ?_
            clear hK K
            refine done_ (done_of HT_.out (by kernel_rfl)) ?_
            obtain ⟨ok9, h9⟩ := h9
            have H9 := Aside0.mk h9
            clear h9 hx9 hf9 hP9 hB9 hHeld z1 hcg hfg
            go_wp2
            go_roundg (N - (i + 1))
            case measure => omega
            case rel => exact ⟨i + 1, ok9, by omega, by omega, by go_num, ⟨by rw [E2.out]; exact H9.out⟩⟩
          · have hb := decide_eq_false hyx
            have E2 : Aside0 (midRows C k (i + 1) = midRows C k i) := ⟨midRows_same C k i (by rw [HGR.out]; exact hb)⟩
            go_wp2
            go_roundg (N - (i + 1))
            case measure => omega
            case rel => exact ⟨i + 1, okr, by omega, by omega, by go_num, ⟨by rw [E2.out]; exact HF0.out⟩⟩
        · have hi2 : i = N := by omega
          subst hi2
          have hltz2 : ¬ (i : Int) < (i : Int) := by omega
          have H7 := HS.out
          have e7 : midRows C k i = chainRows C (k + 1) := by have := midRows_last C k; rw [← HN.out] at this; exact this
          rw [e7] at H7
          have HS7 := Aside0.mk H7
          clear H7 HS e7
          go_wp2
          go_roundg (C.length - (k + 1))
          case measure => omega
          case rel => exact ⟨k + 1, okr, by omega, by omega, by omega, by go_num, HS7⟩
    · have hk2 : k = C.length := by omega
      subst hk2
      have hltz : ¬ (C.length : Int) < (C.length : Int) := by omega
      have hML : (chainRows C C.length).length = N := by simp only [chainRows, List.length_map, List.length_range]; rw [HN.out]
      have HM10 := Aside0.mk (show ∀ r ∈ chainRows C C.length, r.length ≤ 1048576 from fun r hr => by obtain ⟨q, _, rfl⟩ := List.mem_map.1 hr; have := chainRow_le (C := C) C.length q; omega)
      have hTC := tabChain_iff (C := C) hC1 hCB
      have eTC : tabChain C = if isPartition p0 = true ∧ chainOk C 1 = true then (p0, chainRows C C.length, true) else ([], [], false) := by
        unfold tabChain
        rw [HP0.out]
        by_cases g : isPartition (rd_L1 C 0) = true ∧ chainOk C 1 = true
        · rw [if_pos g, if_pos ⟨⟨hC1, hCB⟩, g⟩]
        · rw [if_neg g, if_neg (fun g2 => g g2.2)]
      rw [HRR.out] at eTC
      rw [← HP0.out] at hTC
      clear HRR
      obtain ⟨M, hM⟩ : ∃ M, M = chainRows C C.length := ⟨_, rfl⟩
      rw [← hM] at HS hML HM10 hTC eTC
      have hM20 : M.length ≤ 1048576 := by omega
      rw [← hML] at HS
      have zb_0 : wr.cell? ⟨b, 0, none⟩ = some (.slice A9 p0.length c9) := St.cellB HS.out 0 rfl 0 rfl
      have zb_1 : wr.cell? ⟨b, 1, none⟩ = some (.slice (some ⟨g5, 0, none⟩) M.length M.length) := St.cellB HS.out 0 rfl 1 rfl
      clear hM hT hML
      cases hstd : isStd p0 M with
      | false =>
        rw [if_neg (fun g => by have := (hTC.2 g).1; rw [hstd] at this; cases this)] at eTC
        obtain ⟨rfl, rfl, rfl⟩ : R1 = [] ∧ R2 = [] ∧ R3 = false := by simpa using eTC
        have hB := Aside0.mk hstd
        clear hstd hTC eTC
        go_wp2_with (go_at_call 36; (with_reducible refine (isStd_st HS.out (HS.out.readR 1 rfl) (HS.out.readS 2 rfl) hp20 hM20 HM10.out hB.out).mono ?_); rintro e w3 ⟨rfl, h_⟩; have H3 := Aside0.mk h_; clear h_ zb_0 zb_1; have z2_0 : w3.cell? ⟨b2, 0, none⟩ = some (.slice none 0 0) := St.cellB H3.out 3 rfl 0 rfl; have z2_1 : w3.cell? ⟨b2, 1, none⟩ = some (.slice none 0 0) := St.cellB H3.out 3 rfl 1 rfl; have f2_0 := blk_frozen (St.heapB H3.out 3 rfl) 0; have f2_1 := blk_frozen (St.heapB H3.out 3 rfl) 1)
        have HZ9 := Aside0.mk (St.putB (St.putB H3.out 3 rfl 0 (.slice none 0 0) rfl) 3 rfl 1 (.slice none 0 0) rfl)
        refine bodyPost_ret (results_ct rfl _ _ b2 26 #[.slice none 0 0, .slice none 0 0] (0, 0) _ rfl (St.heapB HZ9.out 3 rfl) Try.underlying26 rfl (by kernel_rfl)) rfl ?_
        exact ⟨_, _, rfl, Kd.R_nil _ _ _ _ _, Kd.S_nil _ _ _ _ _, HZ9.out.below⟩
      | true =>
        have hB := Aside0.mk hstd
        have HBK : Aside0 (bulk M ≤ 1048576) := ⟨by
          have h := hstd
          unfold isStd at h
          rw [Bool.and_eq_true] at h
          have := isTab_bulk h.1
          rw [flatten_bulk] at this
          omega⟩
        by_cases hce : chainOf p0 M = C
        · rw [if_pos (hTC.1 ⟨hstd, hce⟩)] at eTC
          obtain ⟨eR1, eR2, eR3⟩ : R1 = p0 ∧ R2 = M ∧ R3 = true := by simpa using eTC
          subst R1 R2 R3
          have hE := Aside0.mk (decide_eq_true hce)
          clear hstd hTC hce eTC
          go_wp2_with (first
            | (go_at_call 36; (with_reducible refine (isStd_st HS.out (HS.out.readR 1 rfl) (HS.out.readS 2 rfl) hp20 hM20 HM10.out hB.out).mono ?_); rintro e w3 ⟨rfl, h_⟩; have H3 := Aside0.mk h_; clear h_ zb_0 zb_1; have zb_0 : w3.cell? ⟨b, 0, none⟩ = some (.slice A9 p0.length c9) := St.cellB H3.out 0 rfl 0 rfl; have zb_1 : w3.cell? ⟨b, 1, none⟩ = some (.slice (some ⟨g5, 0, none⟩) M.length M.length) := St.cellB H3.out 0 rfl 1 rfl)
            | (go_at_call 24; (with_reducible refine (chainOf_st H3.out (H3.out.readR 1 rfl) (H3.out.readS 2 rfl) hp20 hM20 HBK.out).mono ?_); rintro e w4 ⟨v4, ok4, rfl, h_⟩; have H4 := Aside0.mk h_; obtain ⟨A4, c4, rfl, _, _⟩ := h_.readS 0 rfl; clear h_ zb_0 zb_1)
            | (go_at_call 37; refine (equalFunc_rows A4 c4 (chainOf p0 M) (some ad) c0 C _ (loose_C (Reads.C (H4.out.readS 0 rfl)).2) (Reads.C (H4.out.came C0.out hc)).2).mono ?_; rintro e w5 ⟨rfl, hd_⟩; rw [hE.out]; have H5 := Aside0.mk (H4.out.drawn hd_); clear hd_; have zb_0 : w5.cell? ⟨b, 0, none⟩ = some (.slice A9 p0.length c9) := St.cellB H5.out 1 rfl 0 rfl; have zb_1 : w5.cell? ⟨b, 1, none⟩ = some (.slice (some ⟨g5, 0, none⟩) M.length M.length) := St.cellB H5.out 1 rfl 1 rfl; have z2_0 : w5.cell? ⟨b2, 0, none⟩ = some (.slice none 0 0) := St.cellB H5.out 4 rfl 0 rfl; have z2_1 : w5.cell? ⟨b2, 1, none⟩ = some (.slice none 0 0) := St.cellB H5.out 4 rfl 1 rfl; have f2_0 := blk_frozen (St.heapB H5.out 4 rfl) 0; have f2_1 := blk_frozen (St.heapB H5.out 4 rfl) 1))
          have H6 := Aside0.mk (St.putB (St.putB H5.out 4 rfl 0 (.slice A9 p0.length c9) rfl) 4 rfl 1 (.slice (some ⟨g5, 0, none⟩) M.length M.length) rfl)
          refine bodyPost_ret (results_ct rfl _ _ b2 26 #[.slice A9 p0.length c9, .slice (some ⟨g5, 0, none⟩) M.length M.length] (0, 0) _ rfl (St.heapB H6.out 4 rfl) Try.underlying26 rfl (by kernel_rfl)) rfl ?_
          exact ⟨_, _, rfl, St.giveRS H6.out 2 3 (by decide) rfl rfl⟩
        · rw [if_neg (fun g => hce (hTC.2 g).2)] at eTC
          obtain ⟨rfl, rfl, rfl⟩ : R1 = [] ∧ R2 = [] ∧ R3 = false := by simpa using eTC
          have hE := Aside0.mk (decide_eq_false hce)
          clear hstd hTC hce eTC
          go_wp2_with (first
            | (go_at_call 36; (with_reducible refine (isStd_st HS.out (HS.out.readR 1 rfl) (HS.out.readS 2 rfl) hp20 hM20 HM10.out hB.out).mono ?_); rintro e w3 ⟨rfl, h_⟩; have H3 := Aside0.mk h_; clear h_ zb_0 zb_1; have zb_0 : w3.cell? ⟨b, 0, none⟩ = some (.slice A9 p0.length c9) := St.cellB H3.out 0 rfl 0 rfl; have zb_1 : w3.cell? ⟨b, 1, none⟩ = some (.slice (some ⟨g5, 0, none⟩) M.length M.length) := St.cellB H3.out 0 rfl 1 rfl)
            | (go_at_call 24; (with_reducible refine (chainOf_st H3.out (H3.out.readR 1 rfl) (H3.out.readS 2 rfl) hp20 hM20 HBK.out).mono ?_); rintro e w4 ⟨v4, ok4, rfl, h_⟩; have H4 := Aside0.mk h_; obtain ⟨A4, c4, rfl, _, _⟩ := h_.readS 0 rfl; clear h_ zb_0 zb_1)
            | (go_at_call 37; refine (equalFunc_rows A4 c4 (chainOf p0 M) (some ad) c0 C _ (loose_C (Reads.C (H4.out.readS 0 rfl)).2) (Reads.C (H4.out.came C0.out hc)).2).mono ?_; rintro e w5 ⟨rfl, hd_⟩; rw [hE.out]; have H5 := Aside0.mk (H4.out.drawn hd_); clear hd_; have z2_0 : w5.cell? ⟨b2, 0, none⟩ = some (.slice none 0 0) := St.cellB H5.out 4 rfl 0 rfl; have z2_1 : w5.cell? ⟨b2, 1, none⟩ = some (.slice none 0 0) := St.cellB H5.out 4 rfl 1 rfl; have f2_0 := blk_frozen (St.heapB H5.out 4 rfl) 0; have f2_1 := blk_frozen (St.heapB H5.out 4 rfl) 1))
          have HZ9 := Aside0.mk (St.putB (St.putB H5.out 4 rfl 0 (.slice none 0 0) rfl) 4 rfl 1 (.slice none 0 0) rfl)
          refine bodyPost_ret (results_ct rfl _ _ b2 26 #[.slice none 0 0, .slice none 0 0] (0, 0) _ rfl (St.heapB HZ9.out 4 rfl) Try.underlying26 rfl (by kernel_rfl)) rfl ?_
          exact ⟨_, _, rfl, Kd.R_nil _ _ _ _ _, Kd.S_nil _ _ _ _ _, HZ9.out.below⟩
end Go.Proofs.Ytdcdndfgdmcomaa.Q

set_option linter.unusedVariables false
set_option linter.unusedSimpArgs false
namespace Go.Proofs.Ytdcdndfgdmcomaa.Q
open Go.RowKit Go.Proofs.Ytdcdndfgdmcomaa.F Go.Proofs.YtdcdndfgdmcomaaW.PrintWords Go.Proofs.YtdcdndfgdmcomaaW.PrintLast Go.Proofs.YtdcdndfgdmcomaaW.PrintMore
theorem eqIntS_l0 (a b : List Int) (hl : a.length = b.length) (hb : a.length ≤ 1152921504606846976) : ∀ (d i : Nat), i + d = a.length → Ev (fun k => laws_eqIntS.l0 k a b (i : Int)) (decide (a.drop i = b.drop i)) := by
  intro d
  induction d with
  | zero =>
    intro i h
    refine Ev.step (fun k => by rw [laws_eqIntS.l0]) ?_
    refine ev_neg (by omega) (ev_val ?_)
    rw [List.drop_of_length_le (by omega), List.drop_of_length_le (by omega)]
    simp
  | succ d ih =>
    intro i h
    refine Ev.step (fun k => by rw [laws_eqIntS.l0]) ?_
    refine ev_pos (by omega) (ev_pos (by omega) (ev_pos (by omega) (ev_ite (fun he => ?_) (fun he => ev_val ?_))))
    · rw [wrap_succ (by omega)]
      refine ev_eq (ih (i + 1) (by omega)) ?_
      rw [drop_rd a i (by omega), drop_rd b i (by omega), he]
      simp
    · rw [drop_rd a i (by omega), drop_rd b i (by omega)]
      simp [he]
theorem eqIntS_ev (a b : List Int) (hb : a.length ≤ 1152921504606846976) : Ev (fun k => laws_eqIntS.f k a b) (decide (a = b)) := by
  unfold laws_eqIntS.f
  refine ev_ite (fun h => ?_) (fun h => ev_val ?_)
  · have := eqIntS_l0 a b (by omega) hb a.length 0 (by omega)
    simpa using this
  · have : a ≠ b := fun e => h (by rw [e])
    simp [this]
theorem eqIntS_same (a : List Int) (hb : a.length ≤ 1048576) : Ev (fun k => laws_eqIntS.f k a a) true := ev_eq (eqIntS_ev a a (by omega)) (by simp)
end Go.Proofs.Ytdcdndfgdmcomaa.Q

set_option linter.unusedVariables false
set_option linter.unusedSimpArgs false
namespace Go.Proofs.Ytdcdndfgdmcomaa.Q
open Go.RowKit Go.Proofs.Ytdcdndfgdmcomaa.F Go.Proofs.YtdcdndfgdmcomaaW.PrintWords Go.Proofs.YtdcdndfgdmcomaaW.PrintLast Go.Proofs.YtdcdndfgdmcomaaW.PrintMore
theorem toIntS_l0 (l : List Int) (hl : l.length ≤ 1048576) : ∀ (d i : Nat), i + d = l.length → Ev (fun k => laws_toIntS.l0 k l (l.take i ++ List.replicate d 0) (i : Int)) l := by
  intro d
  induction d with
  | zero =>
    intro i h
    refine Ev.step (fun k => by rw [laws_toIntS.l0]) ?_
    refine ev_neg (by omega) (ev_val ?_)
    simp [List.take_of_length_le (show l.length ≤ i by omega)]
  | succ d ih =>
    intro i h
    have hi : i < l.length := by omega
    refine Ev.step (fun k => by rw [laws_toIntS.l0]) ?_
    refine ev_pos (by omega) (ev_pos (by omega) (ev_pos (by simp; omega) ?_))
    have e : (l.take i ++ List.replicate (d + 1) 0).set (i : Int).toNat (rd l (i : Int)) = l.take (i + 1) ++ List.replicate d 0 := by
      rw [take_rd l i hi, List.set_append_right _ _ (by simp; omega)]
      simp [List.replicate_succ, Nat.min_eq_left (Nat.le_of_lt hi)]
    rw [e, wrap_succ (by omega)]
    exact ih (i + 1) (by omega)
theorem toIntS_ev (l : List Int) (hl : l.length ≤ 1048576) : Ev (fun k => laws_toIntS.f k l) l := by
  unfold laws_toIntS.f
  refine ev_pos (by omega) (ev_pos (by simp; omega) ?_)
  have := toIntS_l0 l hl l.length 0 (by omega)
  simpa using this
end Go.Proofs.Ytdcdndfgdmcomaa.Q

set_option linter.unusedVariables false
set_option linter.unusedSimpArgs false
namespace Go.Proofs.Ytdcdndfgdmcomaa.Q
open Go.RowKit Go.Proofs.Ytdcdndfgdmcomaa.F Go.Proofs.YtdcdndfgdmcomaaW.PrintWords Go.Proofs.YtdcdndfgdmcomaaW.PrintLast Go.Proofs.YtdcdndfgdmcomaaW.PrintMore
theorem szIntS_eq (l : List Int) (left : Int) (h0 : 0 ≤ left) (h1 : left ≤ 1048576) (hm : l.length ≤ maxLen) : laws_szIntS.f l left = some (if left - l.length < 0 then -1 else left - l.length) := by
  unfold maxLen at hm
  unfold laws_szIntS.f
  rw [wrap_id (by omega) (by omega)]
  split <;> rfl
theorem szIntSS_ev (l : List (List Int)) (left : Int) (h0 : 0 ≤ left) (h1 : left ≤ 1048576) (hm : l.length ≤ maxLen) (hr : ∀ r ∈ l, r.length ≤ maxLen) :
    ∃ r, Ev (fun k => laws_szIntSS.f k l left) r ∧ (r < 0 ∨ (0 ≤ r ∧ r = left - (l.length : Int) - (bulk l : Int))) := by
  unfold maxLen at hm
  unfold laws_szIntSS.f
  rw [wrap_id (by omega) (by omega)]
  by_cases hneg : left - (l.length : Int) < 0
  · exact ⟨-1, ev_pos hneg (ev_val rfl), .inl (by omega)⟩
  · have key : ∀ i, i ≤ l.length → ∀ left : Int, 0 ≤ left → left ≤ 1048576 → ∃ r, Ev (fun k => laws_szIntSS.l0 k l left (i : Int)) r ∧ (r < 0 ∨ (0 ≤ r ∧ r = left - (bulk (l.drop i) : Int))) := by
      refine downTo l.length ?_ ?_
      · intro left a b
        refine ⟨left, ?_, .inr ⟨a, by rw [List.drop_length]; simp [bulk]⟩⟩
        refine Ev.step (fun k => by rw [laws_szIntSS.l0]) ?_
        exact ev_neg (by omega) (ev_val rfl)
      · intro i hi ih left a b
        have hrow := hr _ (rows_mem l i hi)
        by_cases hn : left - ((rd_L1 l (i : Int)).length : Int) < 0
        · refine ⟨-1, ?_, .inl (by omega)⟩
          refine Ev.step (fun k => by rw [laws_szIntSS.l0]) ?_
          exact ev_pos (by omega) (ev_pos (by omega) (ev_bindc (szIntS_eq _ _ a b hrow) (ev_pos (by rw [if_pos hn]; omega) (ev_val rfl))))
        · obtain ⟨r, hev, hp⟩ := ih (left - ((rd_L1 l (i : Int)).length : Int)) (by omega) (by omega)
          refine ⟨r, ?_, ?_⟩
          · refine Ev.step (fun k => by rw [laws_szIntSS.l0]) ?_
            refine ev_pos (by omega) (ev_pos (by omega) (ev_bindc (szIntS_eq _ _ a b hrow) (ev_neg (by rw [if_neg hn]; omega) ?_)))
            rw [if_neg hn, wrap_succ (by omega)]
            exact hev
          · rw [drop_rows l i hi]
            unfold bulk
            omega
    obtain ⟨r, hev, hp⟩ := key 0 (by omega) (left - (l.length : Int)) (by omega) (by omega)
    rw [List.drop_zero] at hp
    exact ⟨r, ev_neg hneg hev, hp⟩
theorem toIntSS_ev (l : List (List Int)) (hl : l.length ≤ 1048576) (hr : ∀ r ∈ l, r.length ≤ 1048576) : Ev (fun k => laws_toIntSS.f k l) l := by
  unfold laws_toIntSS.f
  refine ev_pos (by omega) (ev_pos (by simp; omega) ?_)
  have key : ∀ (d i : Nat), i + d = l.length → Ev (fun k => laws_toIntSS.l0 k l (l.take i ++ List.replicate d []) (i : Int)) l := by
    intro d
    induction d with
    | zero =>
      intro i h
      refine Ev.step (fun k => by rw [laws_toIntSS.l0]) ?_
      refine ev_neg (by omega) (ev_val ?_)
      simp [List.take_of_length_le (show l.length ≤ i by omega)]
    | succ d ih =>
      intro i h
      have hi : i < l.length := by omega
      refine Ev.step (fun k => by rw [laws_toIntSS.l0]) ?_
      refine ev_pos (by omega) (ev_pos (by omega) (Ev.bind (toIntS_ev _ (hr _ (rows_mem l i hi))) (ev_pos (by simp; omega) ?_)))
      have e : (l.take i ++ List.replicate (d + 1) []).set (i : Int).toNat (rd_L1 l (i : Int)) = l.take (i + 1) ++ List.replicate d [] := by
        rw [take_rows l i hi, List.set_append_right _ _ (by simp; omega)]
        simp [List.replicate_succ, Nat.min_eq_left (Nat.le_of_lt hi)]
      rw [e, wrap_succ (by omega)]
      exact ih (i + 1) (by omega)
  have := key l.length 0 (by omega)
  simpa using this
theorem eqIntSS_ev (a b : List (List Int)) (hl : a.length ≤ 1152921504606846976) (hr : ∀ r ∈ a, r.length ≤ 1152921504606846976) : Ev (fun k => laws_eqIntSS.f k a b) (decide (a = b)) := by
  unfold laws_eqIntSS.f
  refine ev_ite (fun h => ?_) (fun h => ev_val ?_)
  · have := downTo (P := fun i => Ev (fun k => laws_eqIntSS.l0 k a b (i : Int)) (decide (a.drop i = b.drop i))) a.length ?_ ?_ 0 (by omega)
    · simpa using this
    · refine Ev.step (fun k => by rw [laws_eqIntSS.l0]) ?_
      refine ev_neg (by omega) (ev_val ?_)
      rw [List.drop_of_length_le (by omega), List.drop_of_length_le (by omega)]
      simp
    · intro i hi ih
      refine Ev.step (fun k => by rw [laws_eqIntSS.l0]) ?_
      refine ev_pos (by omega) (ev_pos (by omega) (ev_pos (by omega) (Ev.bind (eqIntS_ev _ _ (hr _ (rows_mem a i hi))) (ev_ite (fun he => ?_) (fun he => ev_val ?_)))))
      · rw [wrap_succ (by omega)]
        refine ev_eq ih ?_
        rw [decide_eq_true_eq] at he
        rw [drop_rows a i (by omega), drop_rows b i (by omega), he]
        simp
      · rw [decide_eq_true_eq] at he
        rw [drop_rows a i (by omega), drop_rows b i (by omega)]
        simp [he]
  · have : a ≠ b := fun e => h (by rw [e])
    simp [this]
theorem eqIntSS_same (a : List (List Int)) (hl : a.length ≤ 1048576) (hr : ∀ r ∈ a, r.length ≤ 1048576) : Ev (fun k => laws_eqIntSS.f k a a) true := ev_eq (eqIntSS_ev a a (by omega) (fun r h => by have := hr r h; omega)) (by simp)
end Go.Proofs.Ytdcdndfgdmcomaa.Q

set_option linter.unusedVariables false
set_option linter.unusedSimpArgs false
namespace Go.Proofs.Ytdcdndfgdmcomaa.Q
open Go.RowKit Go.Proofs.Ytdcdndfgdmcomaa.F Go.Proofs.YtdcdndfgdmcomaaW.PrintWords Go.Proofs.YtdcdndfgdmcomaaW.PrintLast Go.Proofs.YtdcdndfgdmcomaaW.PrintMore
/-- m, m + 1 and so on, n of them -/
def marks (m n : Nat) : List Int := (List.range n).map (fun i => ((m + i : Nat) : Int))
theorem marks_length (m n : Nat) : (marks m n).length = n := by simp [marks]
theorem marks_succ (m n : Nat) : marks m (n + 1) = marks m n ++ [((m + n : Nat) : Int)] := by simp [marks, List.range_succ]
theorem marks_rd (m n i : Nat) (h : i < n) : rd (marks m n) (i : Int) = ((m + i : Nat) : Int) := by
  rw [rd_eq _ i (by rw [marks_length]; exact h)]; simp [marks]
theorem markIntS_ev (l : List Int) (m : Nat) (hl : l.length ≤ 1152921504606846976) (hm : m ≤ 2305843009213693952) : Ev (fun k => laws_markIntS.f k l (m : Int)) (((m + l.length : Nat) : Int), marks m l.length) := by
  unfold laws_markIntS.f
  refine downTo (P := fun i => Ev (fun k => laws_markIntS.l0 k (marks m i ++ l.drop i) ((m + i : Nat) : Int) (i : Int)) (((m + l.length : Nat) : Int), marks m l.length)) l.length ?_ ?_ 0 (by omega)
  · refine Ev.step (fun k => by rw [laws_markIntS.l0]) ?_
    rw [List.drop_length, List.append_nil]
    exact ev_neg (by rw [marks_length]; omega) (ev_val rfl)
  · intro i hi ih
    refine Ev.step (fun k => by rw [laws_markIntS.l0]) ?_
    refine ev_pos (by simp [marks_length]; omega) (ev_pos (by omega) ?_)
    have e : (marks m i ++ l.drop i).set (i : Int).toNat ((m + i : Nat) : Int) = marks m (i + 1) ++ l.drop (i + 1) := by
      rw [Int.toNat_natCast, List.set_append_right _ _ (by rw [marks_length]; omega), marks_length, Nat.sub_self, drop_rd l i hi, marks_succ]
      simp
    rw [e, wrap_succ (by omega), wrap_succ (by omega)]
    exact ih
theorem heldIntS_ev (m n : Nat) (hl : n ≤ 1152921504606846976) (hm : m ≤ 2305843009213693952) : Ev (fun k => laws_heldIntS.f k (marks m n) (m : Int)) ((m + n : Nat) : Int) := by
  unfold laws_heldIntS.f
  refine downTo (P := fun i => Ev (fun k => laws_heldIntS.l0 k (marks m n) ((m + i : Nat) : Int) (i : Int)) ((m + n : Nat) : Int)) n ?_ ?_ 0 (by omega)
  · refine Ev.step (fun k => by rw [laws_heldIntS.l0]) ?_
    exact ev_neg (by rw [marks_length]; omega) (ev_val rfl)
  · intro i hi ih
    refine Ev.step (fun k => by rw [laws_heldIntS.l0]) ?_
    refine ev_pos (by rw [marks_length]; omega) (ev_pos (by omega) (ev_pos (marks_rd m n i hi) ?_))
    rw [wrap_succ (by omega), wrap_succ (by omega)]
    exact ih
end Go.Proofs.Ytdcdndfgdmcomaa.Q

set_option linter.unusedVariables false
set_option linter.unusedSimpArgs false
namespace Go.Proofs.Ytdcdndfgdmcomaa.Q
open Go.RowKit Go.Proofs.Ytdcdndfgdmcomaa.F Go.Proofs.YtdcdndfgdmcomaaW.PrintWords Go.Proofs.YtdcdndfgdmcomaaW.PrintLast Go.Proofs.YtdcdndfgdmcomaaW.PrintMore
/-- m, m + 1 and so on, over the rows -/
def rowMarks (m : Nat) : List (List Int) → List (List Int)
  | [] => []
  | r :: l => marks m r.length :: rowMarks (m + r.length) l
theorem rowMarks_length (l : List (List Int)) (m : Nat) : (rowMarks m l).length = l.length := by
  induction l generalizing m with
  | nil => rfl
  | cons r l ih => simp [rowMarks, ih]
theorem bulk_append (a b : List (List Int)) : bulk (a ++ b) = bulk a + bulk b := by
  induction a with
  | nil => simp [bulk]
  | cons r l ih => simp only [List.cons_append, bulk, ih]; omega
theorem rowMarks_append (a b : List (List Int)) (m : Nat) : rowMarks m (a ++ b) = rowMarks m a ++ rowMarks (m + bulk a) b := by
  induction a generalizing m with
  | nil => simp [rowMarks, bulk]
  | cons r l ih => simp only [List.cons_append, rowMarks, bulk, ih, Nat.add_assoc]
theorem bulk_rowMarks (l : List (List Int)) (m : Nat) : bulk (rowMarks m l) = bulk l := by
  induction l generalizing m with
  | nil => rfl
  | cons r l ih => simp [rowMarks, bulk, ih, marks_length]
theorem rowMarks_step (l : List (List Int)) (m i : Nat) (h : i < l.length) :
    (rowMarks m (l.take i) ++ l.drop i).set i (marks (m + bulk (l.take i)) (l.getD i []).length) = rowMarks m (l.take (i + 1)) ++ l.drop (i + 1) := by
  have e : l.getD i [] = l[i] := by rw [List.getD_eq_getElem?_getD, List.getElem?_eq_getElem h]; rfl
  rw [e, List.take_succ_eq_append_getElem h, rowMarks_append, List.set_append_right _ _ (by rw [rowMarks_length, List.length_take]; omega), rowMarks_length, List.length_take, Nat.min_eq_left (Nat.le_of_lt h), Nat.sub_self]
  simp only [rowMarks, List.append_assoc, List.cons_append, List.nil_append]
  rw [show l.drop i = l[i] :: l.drop (i + 1) from List.drop_eq_getElem_cons h]
  rfl
set_option maxHeartbeats 4000000 in
set_option maxRecDepth 100000 in
theorem markIntSS_calls (P : Nat → Prop) (u : Value) (l : List (List Int)) (m : Nat) (w0 w : World) (hB : Below w0.heap.size w0 w) (hS : Kd.S (Kd.slice 3 (Kd.int .i64)) 24 w w0.heap.size P u l)
    (hb : bulk l ≤ 1152921504606846976) (hm : m ≤ 1152921504606846976) (hl : l.length ≤ 1152921504606846976) :
    Calls Try.prog 13 #[u, .int .i64 (m : Int)] w fun e w' => e = .returned (.int .i64 ((m + bulk l : Nat) : Int)) ∧ Kd.S (Kd.slice 3 (Kd.int .i64)) 24 w' w0.heap.size P u (rowMarks m l) ∧ Below w0.heap.size w0 w' ∧ Kept w w' P := by
  have HS := Aside0.mk hS
  have HB := Aside0.mk hB
  obtain ⟨A, c, hu⟩ := Kd.R_slice (Kd.S_R hS)
  subst hu
  clear hS hB
  go_enter Try.func13, Try.ntmps13
  go_wp2
  go_loopg [1, 5] l.length (fun kq v1 v5 wr => ∃ i j : Nat, i ≤ l.length ∧ l.length - i ≤ kq ∧ Aside0 (j = m + bulk (l.take i)) ∧ v1 = .int .i64 (j : Int) ∧ v5 = .int .i64 i ∧ Aside0 (Kd.S (Kd.slice 3 (Kd.int .i64)) 24 wr w0.heap.size P (.slice A l.length c) (rowMarks m (l.take i) ++ l.drop i)) ∧ Aside0 (Below w0.heap.size w0 wr) ∧ Aside0 (Kept w wr P))
  case atStart => exact ⟨0, m, Nat.zero_le _, by omega, ⟨by simp [bulk]⟩, rfl, rfl, HS, HB, ⟨Kept.refl _ _⟩⟩
  case round =>
    clear HS HB
    obtain ⟨i, j, hi, hg, HJ, rfl, rfl, HS, HB, HK⟩ := hrel
    by_cases hlt : i < l.length
    · have hltz : (i : Int) < (l.length : Int) := by omega
      have hx : (rowMarks m (l.take i) ++ l.drop i).getD (i : Int).toNat [] = l.getD i [] := by
        rw [Int.toNat_natCast, List.getD_eq_getElem?_getD, List.getElem?_append_right (by rw [rowMarks_length, List.length_take]; omega), rowMarks_length, List.length_take, Nat.min_eq_left hi, Nat.sub_self, List.getElem?_drop, Nat.add_zero, List.getD_eq_getElem?_getD]
      obtain ⟨g, cc, e0⟩ : ∃ g cc, (Value.slice A l.length c) = .slice (some ⟨g, 0, none⟩) l.length cc := by
        obtain ⟨g, cc, e0, _⟩ := Kd.R_form (Kd.S_R HS.out) (by simp [rowMarks_length]; omega)
        injection e0 with ea el ec
        exact ⟨g, c, by rw [ea]⟩
      injection e0 with ea _ ec
      subst ea ec
      obtain ⟨oki, cs, hcl, hM, hcc, hfr, hoki, hH⟩ := Kd.S_elem HS.out [] (i : Int) (by omega) (by omega)
      rw [hx] at hM
      obtain ⟨v, rfl, hR⟩ := hM
      obtain ⟨A1, c1, e1⟩ := Kd.R_slice hR
      subst e1
      have hx1 := hcc 0 _ rfl
      rw [show (i : Int).toNat * (Kd.slice 3 (Kd.int .i64)).sz + 0 = i from by show (i : Int).toNat * 1 + 0 = i; omega] at hx1
      have hlb : (l.getD i []).length + bulk (l.take i) ≤ bulk l := by
        have e : l.getD i [] = l[i] := by rw [List.getD_eq_getElem?_getD, List.getElem?_eq_getElem hlt]; rfl
        have h1 := bulk_append (l.take (i + 1)) (l.drop (i + 1))
        rw [List.take_append_drop, List.take_succ_eq_append_getElem hlt, bulk_append] at h1
        rw [e]
        simp only [bulk] at h1
        omega
      have hj := HJ.out
      obtain ⟨K, hK⟩ := markIntS_ev (l.getD i []) j (by omega) (by omega)
      have hst := rowMarks_step l m i hlt
      rw [← hj] at hst
      have hjj : j + (l.getD i []).length = m + bulk (l.take (i + 1)) := by
        have e : l.getD i [] = l[i] := by rw [List.getD_eq_getElem?_getD, List.getElem?_eq_getElem hlt]; rfl
        rw [List.take_succ_eq_append_getElem hlt, bulk_append, e, hj]
        simp only [bulk]
        omega
      have J1 := Aside0.mk hjj
      have ST := Aside0.mk hst
      have HK1 := Aside0.mk (hK K (Nat.le_refl _))
      have HR := Aside0.mk hR
      have HO := Aside0.mk hoki
      have HH := Aside0.mk hH
      clear hst hK hR hoki hH hjj hj hx hcl hcc hfr HJ
      generalize l.getD i [] = r at hx1 HR HK1 ST J1 HH hlb
      go_wp2_with (go_at_call 21; (with_reducible refine (laws_markIntS.calls K oki _ r (j : Int) _ _ w0 _ HB.out HR.out HK1.out).mono ?_); rintro e w6 ⟨rfl, hr6, hb6, hk6⟩; have R6 := Aside0.mk hr6; have B6 := Aside0.mk hb6; have K6 := Aside0.mk hk6; clear hr6 hb6 hk6)
      go_roundg (l.length - (i + 1))
      case measure => omega
      case rel =>
        refine ⟨i + 1, j + r.length, by omega, by omega, J1, rfl, by go_num, ⟨?_⟩, B6, ⟨HK.out.then_ K6.out (fun k hk => .inl (HO.out k hk).1)⟩⟩
        rw [← ST.out]
        have h1 := Kd.H_back (Kd.H_step HH.out (fun k _ hn hlt => K6.out.2 k hlt hn)) (x' := marks j r.length) (okp := oki) ⟨_, rfl, Kd.R_mono (Kd.R_tight rfl R6.out) (fun k hk => HR.out.1 k hk.symm)⟩ (fun _ h => h)
        rwa [Int.toNat_natCast] at h1
    · have : i = l.length := by omega
      subst this
      have hltz : ¬ (l.length : Int) < (l.length : Int) := by omega
      replace HS := Aside0.mk (show Kd.S _ _ _ _ _ _ (rowMarks m l) by have := HS.out; rwa [List.take_length, List.drop_length, List.append_nil] at this)
      go_wp2
      go_ret
      exact ⟨by have := HJ.out; rw [List.take_length] at this; rw [this]; rfl, HS.out, HB.out, HK.out⟩
end Go.Proofs.Ytdcdndfgdmcomaa.Q

set_option linter.unusedVariables false
set_option linter.unusedSimpArgs false
namespace Go.Proofs.Ytdcdndfgdmcomaa.Q
open Go.RowKit Go.Proofs.Ytdcdndfgdmcomaa.F Go.Proofs.YtdcdndfgdmcomaaW.PrintWords Go.Proofs.YtdcdndfgdmcomaaW.PrintLast Go.Proofs.YtdcdndfgdmcomaaW.PrintMore
section
variable {w W : World} {L L' : List Ob} {ok ok' : Nat → Prop} {v v' : Value} {xs ys : List (List Int)}
theorem toIntSS_st (h : St w W L) (hr : Reads (Kd.slice 3 (Kd.int .i64)) W v xs) (hl : xs.length ≤ 1048576) (hb : ∀ r ∈ xs, r.length ≤ 1048576) :
    Calls Try.prog 9 #[v] W fun e W' => ∃ v1 ok1, e = .returned v1 ∧ St w W' (obS (Kd.slice 3 (Kd.int .i64)) 24 w ok1 v1 xs :: L) := by
  obtain ⟨A, c, rfl, hc, hC⟩ := hr
  obtain ⟨K, hK⟩ := toIntSS_ev xs hl hb
  refine (laws_toIntSS.calls K A c xs xs W hC hc (hK K (Nat.le_refl _))).mono ?_
  rintro e W' ⟨v1, rfl, hR, hB⟩
  obtain ⟨ok1, h1⟩ := h.addS hB hR
  exact ⟨v1, ok1, rfl, h1⟩
theorem eqIntSS_st_same (h : St w W L) (hr : Reads (Kd.slice 3 (Kd.int .i64)) W v xs) (hr' : Reads (Kd.slice 3 (Kd.int .i64)) W v' xs) (hl : xs.length ≤ 1152921504606846976) (hb : ∀ r ∈ xs, r.length ≤ 1152921504606846976) :
    Calls Try.prog 12 #[v, v'] W fun e W' => e = .returned (.bool true) ∧ St w W' L := by
  obtain ⟨A, c, rfl, hc, hC⟩ := hr
  obtain ⟨A', c', rfl, hc', hC'⟩ := hr'
  obtain ⟨K, hK⟩ := eqIntSS_ev xs xs hl hb
  refine (laws_eqIntSS.calls K A c xs A' c' xs _ W hC hc hC' hc' (hK K (Nat.le_refl _))).mono ?_
  rintro e W' ⟨rfl, hd⟩
  exact ⟨by simp, h.drawn hd⟩
theorem markIntSS_st (h : St w W L) (i : Nat) (hi : L[i]? = some (obS (Kd.slice 3 (Kd.int .i64)) 24 w ok v xs)) (m : Nat) (hm : m ≤ 1152921504606846976) (hl : xs.length ≤ 1152921504606846976) (hb : bulk xs ≤ 1152921504606846976)
    (hL : L.set i (obS (Kd.slice 3 (Kd.int .i64)) 24 w ok v (rowMarks m xs)) = L') :
    Calls Try.prog 13 #[v, .int .i64 (m : Int)] W fun e W' => e = .returned (.int .i64 ((m + bulk xs : Nat) : Int)) ∧ St w W' L' := by
  have hR : Kd.S (Kd.slice 3 (Kd.int .i64)) 24 W w.heap.size ok v xs := h.get i hi
  refine (markIntSS_calls ok v xs m w W h.below hR hb hm hl).mono ?_
  rintro e W' ⟨rfl, hr, hb, hk⟩
  exact ⟨rfl, h.mark (o' := obS (Kd.slice 3 (Kd.int .i64)) 24 w ok v (rowMarks m xs)) i hi rfl firmS hb hk hr hL⟩
theorem heldIntSS_ev (l : List (List Int)) (m : Nat) (hl : l.length ≤ 1152921504606846976) (hb : bulk l ≤ 1152921504606846976) (hm : m ≤ 1152921504606846976) : Ev (fun k => laws_heldIntSS.f k (rowMarks m l) (m : Int)) ((m + bulk l : Nat) : Int) := by
  unfold laws_heldIntSS.f
  have key : ∀ (a b : List (List Int)), a ++ b = l → Ev (fun k => laws_heldIntSS.l0 k (rowMarks m l) ((m + bulk a : Nat) : Int) (a.length : Int)) ((m + bulk l : Nat) : Int) := by
    intro a b hab
    induction b generalizing a with
    | nil =>
      rw [List.append_nil] at hab
      subst hab
      refine Ev.step (fun k => by rw [laws_heldIntSS.l0]) ?_
      exact ev_neg (by rw [rowMarks_length]; omega) (ev_val rfl)
    | cons r b ih =>
      have hlen : a.length < l.length := by rw [← hab]; simp
      have hbl : bulk a + r.length ≤ bulk l := by rw [← hab, bulk_append]; simp only [bulk]; omega
      have hrow : rd_L1 (rowMarks m l) (a.length : Int) = marks (m + bulk a) r.length := by
        rw [rows_nat, ← hab, rowMarks_append, List.getD_eq_getElem?_getD, List.getElem?_append_right (by rw [rowMarks_length]; exact Nat.le_refl _), rowMarks_length, Nat.sub_self]
        rfl
      have := ih (a ++ [r]) (by rw [← hab]; simp)
      rw [bulk_append, List.length_append] at this
      simp only [bulk, List.length_cons, List.length_nil, Nat.add_zero, Nat.zero_add] at this
      refine Ev.step (fun k => by rw [laws_heldIntSS.l0]) ?_
      refine ev_pos (by rw [rowMarks_length]; omega) (ev_pos (by omega) ?_)
      rw [hrow]
      refine Ev.bind (heldIntS_ev (m + bulk a) r.length (by omega) (by omega)) (ev_neg (by omega) ?_)
      rw [wrap_succ (by omega), Nat.add_assoc]
      exact this
  have := key [] l rfl
  simpa [bulk] using this
theorem heldIntSS_st (h : St w W L) (xs : List (List Int)) (m : Nat) (hr : Reads (Kd.slice 3 (Kd.int .i64)) W v (rowMarks m xs)) (hm : m ≤ 1152921504606846976) (hl : xs.length ≤ 1152921504606846976) (hb : bulk xs ≤ 1152921504606846976) :
    Calls Try.prog 25 #[v, .int .i64 (m : Int)] W fun e W' => e = .returned (.int .i64 ((m + bulk xs : Nat) : Int)) ∧ St w W' L := by
  obtain ⟨A, c, rfl, hc, hC⟩ := hr
  obtain ⟨K, hK⟩ := heldIntSS_ev xs m hl hb hm
  refine (laws_heldIntSS.calls K A c _ (m : Int) _ W hC hc (hK K (Nat.le_refl _))).mono ?_
  rintro e W' ⟨rfl, hd⟩
  exact ⟨rfl, h.drawn hd⟩
end
theorem szIntSS_st {w W : World} {L : List Ob} {v : Value} {xs : List (List Int)} {a z : Int} (h : St w W L) (hr : Reads (Kd.slice 3 (Kd.int .i64)) W v xs) (hE : Ev (fun k => laws_szIntSS.f k xs a) z) :
    Calls Try.prog 7 #[v, .int .i64 a] W fun e W' => e = .returned (.int .i64 z) ∧ St w W' L := by
  obtain ⟨A, c, rfl, hc, hC⟩ := hr
  obtain ⟨K, hK⟩ := hE
  refine (laws_szIntSS.calls K A c xs a z W hC hc (hK K (Nat.le_refl _))).mono ?_
  rintro e W' ⟨rfl, hd⟩
  exact ⟨rfl, h.drawn hd⟩
end Go.Proofs.Ytdcdndfgdmcomaa.Q

set_option linter.unusedVariables false
set_option linter.unusedSimpArgs false
namespace Go.Proofs.Ytdcdndfgdmcomaa.Q
open Go.RowKit Go.Proofs.Ytdcdndfgdmcomaa.F Go.Proofs.YtdcdndfgdmcomaaW.PrintWords Go.Proofs.YtdcdndfgdmcomaaW.PrintLast Go.Proofs.YtdcdndfgdmcomaaW.PrintMore
section
variable {w W : World} {L L' : List Ob} {ok ok' : Nat → Prop} {v v' : Value} {xs ys : List Int}
theorem toIntS_st (h : St w W L) (hr : Reads (Kd.int .i64) W v xs) (hl : xs.length ≤ 1048576) :
    Calls Try.prog 27 #[v] W fun e W' => ∃ v1 ok1, e = .returned v1 ∧ St w W' (obR (Kd.int .i64) 3 w ok1 v1 xs :: L) := by
  obtain ⟨A, c, rfl, hc, hC⟩ := hr
  obtain ⟨K, hK⟩ := toIntS_ev xs hl
  refine (laws_toIntS.calls K A c xs xs W hC hc (hK K (Nat.le_refl _))).mono ?_
  rintro e W' ⟨v1, rfl, hR, hB⟩
  obtain ⟨ok1, h1⟩ := h.addR hB hR
  exact ⟨v1, ok1, rfl, h1⟩
theorem eqIntS_st (h : St w W L) (hr : Reads (Kd.int .i64) W v xs) (hr' : Reads (Kd.int .i64) W v' ys) (hl : xs.length ≤ 1152921504606846976) :
    Calls Try.prog 20 #[v, v'] W fun e W' => e = .returned (.bool (decide (xs = ys))) ∧ St w W' L := by
  obtain ⟨A, c, rfl, hc, hC⟩ := hr
  obtain ⟨A', c', rfl, hc', hC'⟩ := hr'
  obtain ⟨K, hK⟩ := eqIntS_ev xs ys hl
  refine (laws_eqIntS.calls K A c xs A' c' ys _ W hC hc hC' hc' (hK K (Nat.le_refl _))).mono ?_
  rintro e W' ⟨rfl, hd⟩
  exact ⟨rfl, h.drawn hd⟩
theorem eqIntS_st_same (h : St w W L) (hr : Reads (Kd.int .i64) W v xs) (hr' : Reads (Kd.int .i64) W v' xs) (hl : xs.length ≤ 1152921504606846976) :
    Calls Try.prog 20 #[v, v'] W fun e W' => e = .returned (.bool true) ∧ St w W' L := by
  refine (eqIntS_st h hr hr' hl).mono ?_
  rintro e W' ⟨rfl, hd⟩
  exact ⟨by simp, hd⟩
theorem markIntS_st (h : St w W L) (i : Nat) (hi : L[i]? = some (obR (Kd.int .i64) 3 w ok v xs)) (m : Nat) (hm : m ≤ 2305843009213693952) (hl : xs.length ≤ 1152921504606846976) (hL : L.set i (obR (Kd.int .i64) 3 w ok v (marks m xs.length)) = L') :
    Calls Try.prog 21 #[v, .int .i64 (m : Int)] W fun e W' => e = .returned (.int .i64 ((m + xs.length : Nat) : Int)) ∧ St w W' L' := by
  obtain ⟨K, hK⟩ := markIntS_ev xs m hl hm
  have hR : Kd.R (Kd.int .i64) 3 W w.heap.size ok v xs := h.get i hi
  refine (laws_markIntS.calls K ok v xs (m : Int) _ _ w W h.below hR (hK K (Nat.le_refl _))).mono ?_
  rintro e W' ⟨rfl, hr, hb, hk⟩
  exact ⟨rfl, h.mark (o' := obR (Kd.int .i64) 3 w ok v (marks m xs.length)) i hi rfl firmR hb hk (Kd.R_mono (Kd.R_tight rfl hr) (fun k hk => hR.1 k hk.symm)) hL⟩
theorem heldIntS_st (h : St w W L) (n : Nat) (m : Nat) (hr : Reads (Kd.int .i64) W v (marks m n)) (hm : m ≤ 2305843009213693952) (hl : n ≤ 1152921504606846976) :
    Calls Try.prog 22 #[v, .int .i64 (m : Int)] W fun e W' => e = .returned (.int .i64 ((m + n : Nat) : Int)) ∧ St w W' L := by
  obtain ⟨A, c, rfl, hc, hC⟩ := hr
  obtain ⟨K, hK⟩ := heldIntS_ev m n hl hm
  refine (laws_heldIntS.calls K A c _ (m : Int) _ W hC hc (hK K (Nat.le_refl _))).mono ?_
  rintro e W' ⟨rfl, hd⟩
  exact ⟨rfl, h.drawn hd⟩
end
end Go.Proofs.Ytdcdndfgdmcomaa.Q

set_option linter.unusedVariables false
set_option linter.unusedSimpArgs false
namespace Go.Proofs.Ytdcdndfgdmcomaa.Q
open Go.RowKit Go.Proofs.Ytdcdndfgdmcomaa.F Go.Proofs.YtdcdndfgdmcomaaW.PrintWords Go.Proofs.YtdcdndfgdmcomaaW.PrintLast Go.Proofs.YtdcdndfgdmcomaaW.PrintMore
section
variable {w W : World} {L L' : List Ob} {o : Ob} {ok ok' : Nat → Prop} {v0 v1 u0 u1 : Value} {n : List Int} {m : List (List Int)}
theorem eqTableau_st_same (h : St w W L) (h0 : Reads (Kd.int .i64) W v0 n) (h1 : Reads (Kd.slice 3 (Kd.int .i64)) W v1 m) (h2 : Reads (Kd.int .i64) W u0 n) (h3 : Reads (Kd.slice 3 (Kd.int .i64)) W u1 m)
    (hn : n.length ≤ 1152921504606846976) (hm : m.length ≤ 1152921504606846976) (hb : ∀ r ∈ m, r.length ≤ 1152921504606846976) :
    Calls Try.prog 11 #[.agg #[v0, v1], .agg #[u0, u1]] W fun e W' => e = .returned (.bool true) ∧ St w W' L := by
  obtain ⟨A0, c0, rfl, hc0, hC0⟩ := h0
  obtain ⟨A1, c1, rfl, hc1, hC1⟩ := h1
  obtain ⟨A2, c2, rfl, hc2, hC2⟩ := h2
  obtain ⟨A3, c3, rfl, hc3, hC3⟩ := h3
  have hE : Ev (fun k => laws_eqTableau.f k n m n m) true := by
    unfold laws_eqTableau.f
    exact Ev.bind (eqIntS_ev n n hn) (ev_pos (by simp) (Ev.bind (eqIntSS_ev m m hm hb) (ev_pos (by simp) (ev_val rfl))))
  obtain ⟨K, hK⟩ := hE
  refine (laws_eqTableau.calls K A0 c0 n A1 c1 m A2 c2 n A3 c3 m true W hC0 hc0 hC1 hc1 hC2 hc2 hC3 hc3 (hK K (Nat.le_refl _))).mono ?_
  rintro e W' ⟨rfl, hd⟩
  exact ⟨rfl, h.quiet hd⟩
theorem heldTableau_st (h : St w W L) (a : Nat) (m : List (List Int)) (q : Nat) (h0 : Reads (Kd.int .i64) W v0 (marks q a)) (h1 : Reads (Kd.slice 3 (Kd.int .i64)) W v1 (rowMarks (q + a) m))
    (hq : q ≤ 576460752303423488) (hn : a ≤ 576460752303423488) (hm : m.length ≤ 576460752303423488) (hb : bulk m ≤ 576460752303423488) :
    Calls Try.prog 15 #[.agg #[v0, v1], .int .i64 (q : Int)] W fun e W' => e = .returned (.int .i64 ((q + a + bulk m : Nat) : Int)) ∧ St w W' L := by
  obtain ⟨A0, c0, rfl, hc0, hC0⟩ := h0
  obtain ⟨A1, c1, rfl, hc1, hC1⟩ := h1
  have hE : Ev (fun k => laws_heldTableau.f k (marks q a) (rowMarks (q + a) m) (q : Int)) ((q + a + bulk m : Nat) : Int) := by
    unfold laws_heldTableau.f
    exact Ev.bind (heldIntS_ev q a (by omega) (by omega)) (ev_neg (by omega) (Ev.bind (heldIntSS_ev m (q + a) (by omega) (by omega) (by omega)) (ev_neg (by omega) (ev_val rfl))))
  obtain ⟨K, hK⟩ := hE
  refine (laws_heldTableau.calls K A0 c0 _ A1 c1 _ (q : Int) _ W hC0 hc0 hC1 hc1 (hK K (Nat.le_refl _))).mono ?_
  rintro e W' ⟨rfl, hd⟩
  exact ⟨rfl, h.quiet hd⟩
set_option maxHeartbeats 4000000 in
set_option maxRecDepth 100000 in
theorem markTableau_st (h : St w W L) (i j : Nat) (hi : L[i]? = some (obR (Kd.int .i64) 3 w ok v0 n)) (hij : i ≠ j) (hj : L[j]? = some (obS (Kd.slice 3 (Kd.int .i64)) 24 w ok' v1 m)) (q : Nat)
    (hq : q ≤ 576460752303423488) (hn : n.length ≤ 576460752303423488) (hm : m.length ≤ 576460752303423488) (hb : bulk m ≤ 576460752303423488)
    (hL : (L.set i (obR (Kd.int .i64) 3 w ok v0 (marks q n.length))).set j (obS (Kd.slice 3 (Kd.int .i64)) 24 w ok' v1 (rowMarks (q + n.length) m)) = L') :
    Calls Try.prog 14 #[.agg #[v0, v1], .int .i64 (q : Int)] W fun e W' => e = .returned (.int .i64 ((q + n.length + bulk m : Nat) : Int)) ∧ St w W' L' := by
  obtain ⟨A0, c0, rfl, _, _⟩ := h.readR i hi
  obtain ⟨A1, c1, rfl, _, _⟩ := h.readS j hj
  have H0 := Aside0.mk h
  have HI := Aside0.mk hi
  have HJ := Aside0.mk hj
  have HF := Aside0.mk (And.intro hq (And.intro hn (And.intro hm hb)))
  clear h hi hj hq hn hm hb
  go_enter Try.func14, Try.ntmps14
  go_wp2_with (first
    | ((with_reducible refine gate_dst (N := 2) rfl ?_); refine box_event ?hg (N := 2) ?hd (cs := #[.slice A0 n.length c0, .slice A1 m.length c1]) (t := 26) ?hr ?_; (case hd => rfl); (case hg => rfl); (case hr => first | (go_simp; done) | (go_simp; rfl)); intro b hb w1 hx hl; have H1 := Aside0.mk (H0.out.add (o := obB b #[.slice A0 n.length c0, .slice A1 m.length c1] 26) hl (fun k hk => by have h1 : k = b := hk; have h2 := blk_lt hx; omega) hx firmB); have hc0 : w1.cell? ⟨b, 0, none⟩ = some (.slice A0 n.length c0) := (blk_cell hx 0).trans rfl; clear hx hl hb)
    | (go_at_call 21; refine (markIntS_st (L' := obB b #[.slice A0 n.length c0, .slice A1 m.length c1] 26 :: L.set i (obR (Kd.int .i64) 3 w ok (.slice A0 n.length c0) (marks q n.length))) H1.out (i + 1) HI.out q (by have := HF.out; omega) (by have := HF.out; omega) rfl).mono ?_; rintro e w2 ⟨rfl, h_⟩; have H2 := Aside0.mk h_; have hc1 : w2.cell? ⟨b, 1, none⟩ = some (.slice A1 m.length c1) := (blk_cell (show w2.heap[b]? = some (.cells #[.slice A0 n.length c0, .slice A1 m.length c1] 26 (0, 0)) from h_.get 0 rfl) 1).trans rfl; clear h_ H1 hc0)
    | (go_at_call 13; refine (markIntSS_st (L' := obB b #[.slice A0 n.length c0, .slice A1 m.length c1] 26 :: (L.set i (obR (Kd.int .i64) 3 w ok (.slice A0 n.length c0) (marks q n.length))).set j (obS (Kd.slice 3 (Kd.int .i64)) 24 w ok' (.slice A1 m.length c1) (rowMarks (q + n.length) m))) H2.out (j + 1) ((List.getElem?_set_ne hij).trans HJ.out) (q + n.length) (by have := HF.out; omega) (by have := HF.out; omega) (by have := HF.out; omega) rfl).mono ?_; rintro e w3 ⟨rfl, h_⟩; have H3 := Aside0.mk h_; clear h_ H2 hc1))
  go_ret
  exact ⟨rfl, hL ▸ H3.out.drop⟩
end
end Go.Proofs.Ytdcdndfgdmcomaa.Q

set_option linter.unusedVariables false
set_option linter.unusedSimpArgs false
namespace Go.Proofs.Ytdcdndfgdmcomaa.Q
open Go.RowKit Go.Proofs.Ytdcdndfgdmcomaa.F Go.Proofs.YtdcdndfgdmcomaaW.PrintWords Go.Proofs.YtdcdndfgdmcomaaW.PrintLast Go.Proofs.YtdcdndfgdmcomaaW.PrintMore
theorem spec_l2Size_ev (l : List Int) (hl : l.length ≤ 1048576) (h : ∀ x ∈ l, 0 ≤ x ∧ x ≤ 1000000) : Ev (fun k => spec_l2Size.f k l) (isum l) := by
  unfold spec_l2Size.f
  have key : ∀ i, i ≤ l.length → ∀ s : Int, 0 ≤ s → s ≤ 1000000 * i → Ev (fun k => spec_l2Size.l0 k l s (i : Int)) (s + isum (l.drop i)) := by
    refine downTo l.length ?_ ?_
    · intro s a b
      refine Ev.step (fun k => by rw [spec_l2Size.l0]) ?_
      exact ev_neg (by omega) (ev_val (by rw [List.drop_length]; simp [isum]))
    · intro i hi ih s a b
      have hx := h _ (rd_mem l i hi)
      refine Ev.step (fun k => by rw [spec_l2Size.l0]) ?_
      refine ev_pos (by omega) (ev_pos (by omega) ?_)
      rw [wrap_succ (by omega), wrap_id (by omega) (by omega)]
      refine ev_eq (ih _ (by omega) (by omega)) ?_
      rw [drop_rd l i hi]
      simp only [isum]; omega
  have := key 0 (by omega) 0 (by omega) (by omega)
  simpa using this
end Go.Proofs.Ytdcdndfgdmcomaa.Q

set_option linter.unusedVariables false
set_option linter.unusedSimpArgs false
namespace Go.Proofs.Ytdcdndfgdmcomaa.Q
open Go.RowKit Go.Proofs.Ytdcdndfgdmcomaa.F Go.Proofs.YtdcdndfgdmcomaaW.PrintWords Go.Proofs.YtdcdndfgdmcomaaW.PrintLast Go.Proofs.YtdcdndfgdmcomaaW.PrintMore
section
variable {C : List (List Int)}
theorem chainRow_one (i : Nat) : chainRow C 1 i = [] := by
  have h0 : grows C 0 i = false := by unfold grows; simp
  simp [chainRow, h0]
theorem spec_l6Tableau_ev (h1 : 1 ≤ C.length) (h2 : C.length ≤ 10) (hp : (rd_L1 C 0).length ≤ 1048576) (hn : lastLen C ≤ 1048576) : Ev (fun k => spec_l6Tableau.f k C) (rd_L1 C 0, chainRows C C.length) := by
  unfold spec_l6Tableau.f
  have ec : ((C.length : Int) - 1) = ((C.length - 1 : Nat) : Int) := by omega
  refine ev_bindc rfl (ev_pos (by omega) (ev_pos (by simp only [List.length_nil]; omega) ?_))
  rw [wrap_id (i := (C.length : Int) - 1) (by omega) (by omega)]
  refine ev_pos (by omega) (ev_pos (by omega) ?_)
  rw [ec, List.nil_append]
  have k1 : ∀ (P : List Int) (m : List (List Int)) (i : Nat) (z : List Int × List (List Int)), m.length ≤ 1048576 → i ≤ 1048576 →
      Ev (fun q => spec_l6Tableau.l0 q C (rd_L1 C ((C.length - 1 : Nat) : Int)) ((i : Int) + 1) P (m ++ [chainRow C C.length i])) z →
      ∀ d k : Nat, k + d = C.length → 1 ≤ k → Ev (fun q => spec_l6Tableau.l1 q C (rd_L1 C ((C.length - 1 : Nat) : Int)) (i : Int) (chainRow C k i) (k : Int) P m) z := by
    intro P m i z hm hi hz d
    induction d with
    | zero =>
      intro k hk _
      obtain rfl : k = C.length := by omega
      refine Ev.step (fun q => by rw [spec_l6Tableau.l1]) (ev_neg (by omega) (ev_pos (by omega) ?_))
      rw [wrap_succ (by omega)]
      exact hz
    | succ d ih =>
      intro k hk hk1
      have hl := chainRow_le (C := C) k i
      have ek : ((k : Int) - 1) = ((k - 1 : Nat) : Int) := by omega
      have hq := ih (k + 1) (by omega) (by omega)
      rw [Int.natCast_add, Int.natCast_one] at hq
      refine Ev.step (fun q => by rw [spec_l6Tableau.l1]) (ev_pos (by omega) (ev_pos (by omega) (ev_bindc (spec_l2At_eq _ _) ?_)))
      rw [wrap_id (i := (k : Int) - 1) (by omega) (by omega), ek]
      refine ev_pos (by omega) (ev_pos (by omega) (ev_bindc (spec_l2At_eq _ _) (ev_ite (fun h => ?_) (fun h => ?_))))
      · have hg : grows C k i = true := by unfold grows; exact decide_eq_true ⟨hk1, h⟩
        refine ev_pos (by omega) ?_
        rw [wrap_succ (by omega)]
        simp only [chainRow] at hq
        rw [if_pos hg] at hq
        exact hq
      · have hg : ¬ grows C k i = true := by unfold grows; intro g; exact h (of_decide_eq_true g).2
        rw [wrap_succ (by omega)]
        simp only [chainRow] at hq
        rw [if_neg hg] at hq
        exact hq
  have k0 : ∀ (P : List Int) (d i : Nat), i + d = lastLen C → Ev (fun q => spec_l6Tableau.l0 q C (rd_L1 C ((C.length - 1 : Nat) : Int)) (i : Int) P ((List.range i).map (chainRow C C.length))) (P, chainRows C C.length) := by
    intro P d
    induction d with
    | zero =>
      intro i hi
      obtain rfl : i = lastLen C := by omega
      refine Ev.step (fun q => by rw [spec_l6Tableau.l0]) ?_
      exact ev_neg (by unfold lastLen; omega) (ev_val rfl)
    | succ d ih =>
      intro i hi
      have hq := ih (i + 1) (by omega)
      rw [List.range_succ, List.map_append, List.map_singleton, Int.natCast_add, Int.natCast_one] at hq
      have h3 := k1 P ((List.range i).map (chainRow C C.length)) i _ (by rw [List.length_map, List.length_range]; omega) (by omega) hq (C.length - 1) 1 (by omega) (Nat.le_refl _)
      rw [chainRow_one] at h3
      rw [Int.natCast_one] at h3
      refine Ev.step (fun q => by rw [spec_l6Tableau.l0]) ?_
      exact ev_pos (by unfold lastLen at hi; omega) h3
  exact k0 _ (lastLen C) 0 (by omega)
theorem part_bd {l : List Int} (h : isPartition l = true) : l.length ≤ 1048576 ∧ ∀ x ∈ l, 0 ≤ x ∧ x ≤ 1000000 := by
  obtain ⟨_, h2, h3⟩ := isPartition_bd h
  exact ⟨by omega, fun x hx => by have := h3 x hx; omega⟩
theorem spec_TableauOfChain_ev (hrow : ∀ r ∈ C, r.length ≤ 1048576) : Ev (fun k => spec_TableauOfChain.f k C) (tabChain C) := by
  unfold spec_TableauOfChain.f tabChain
  refine ev_ite (fun h => ?_) (fun h => ev_ite (fun h2 => ?_) (fun h2 => ?_))
  · rw [if_neg (fun g => by omega)]
    exact Ev.step (fun q => by rw [spec_TableauOfChain.j0]) (ev_pos rfl (ev_val rfl))
  · rw [if_neg (fun g => by omega)]
    exact Ev.step (fun q => by rw [spec_TableauOfChain.j0]) (ev_pos rfl (ev_val rfl))
  · have hlen : ∀ i : Nat, i < C.length → (rd_L1 C (i : Int)).length ≤ 1048576 := fun i hi => hrow _ (rows_mem C i hi)
    have hl0 := hlen 0 (by omega)
    refine ev_pos (by omega) (Ev.bind (spec_IsPartition_ev _ hl0) ?_)
    cases hp : isPartition (rd_L1 C 0) with
    | false =>
      rw [if_neg (fun g => by have := g.2.1; cases this)]
      refine Ev.step (fun q => by rw [spec_TableauOfChain.j0]) ?_
      exact ev_pos rfl (ev_val rfl)
    | true =>
      have key : ∀ d i : Nat, i + d = C.length → 1 ≤ i → Ev (fun q => spec_TableauOfChain.l0 q C (i : Int)) (if chainOk C i = true then (rd_L1 C 0, chainRows C C.length, true) else ([], [], false)) := by
        intro d
        induction d with
        | zero =>
          intro i hi h1
          have e : chainOk C i = true := by unfold chainOk; exact all_done (by omega)
          rw [if_pos e]
          refine Ev.step (fun q => by rw [spec_TableauOfChain.l0]) (ev_neg (by omega) (Ev.bind (spec_l6Tableau_ev (by omega) (by omega) hl0 (hlen _ (by omega))) (ev_val rfl)))
        | succ d ih =>
          intro i hi h1
          have ek : ((i : Int) - 1) = ((i - 1 : Nat) : Int) := by omega
          have hq := ih (i + 1) (by omega) (by omega)
          refine Ev.step (fun q => by rw [spec_TableauOfChain.l0]) (ev_pos (by omega) ?_)
          rw [wrap_id (i := (i : Int) - 1) (by omega) (by omega), ek]
          refine ev_pos (by omega) (ev_pos (by omega) (ev_pos (by omega) (Ev.bind (spec_IsInside_ev _ _ (hlen _ (by omega)) (hlen _ (by omega))) (ev_ite (fun g => ?_) (fun g => ?_)))))
          · obtain ⟨g1, g2, _, _⟩ := isInside_len g
            obtain ⟨b1, b2⟩ := part_bd g1
            obtain ⟨b3, b4⟩ := part_bd g2
            have s1 := isPartition_bd g1
            have s2 := isum_ge (fun x hx => ((isPartition_bd g1).2.2 x hx).1)
            refine Ev.bind (spec_l2Size_ev _ b3 b4) (Ev.bind (spec_l2Size_ev _ b1 b2) ?_)
            rw [wrap_id (by omega) (by omega), wrap_succ (by omega)]
            refine ev_ite (fun g3 => ?_) (fun g3 => ?_)
            · have e : chainOk C i = chainOk C (i + 1) := by unfold chainOk; exact all_step ⟨g, g3⟩
              rw [e]
              exact hq
            · have e : chainOk C i = false := by unfold chainOk; exact all_fail (by omega) (fun g4 => g3 g4.2)
              rw [e]
              exact ev_val rfl
          · have e : chainOk C i = false := by unfold chainOk; exact all_fail (by omega) (fun g4 => g g4.1)
            rw [e]
            exact ev_val rfl
      have hk := key (C.length - 1) 1 (by omega) (Nat.le_refl _)
      refine Ev.step (fun q => by rw [spec_TableauOfChain.j0]) (ev_neg (by simp) ?_)
      by_cases g : chainOk C 1 = true
      · rw [if_pos g] at hk
        rw [if_pos ⟨⟨by omega, by omega⟩, rfl, g⟩]
        exact hk
      · rw [if_neg g] at hk
        rw [if_neg (fun g2 => g g2.2.2)]
        exact hk
end
end Go.Proofs.Ytdcdndfgdmcomaa.Q

set_option linter.unusedVariables false
set_option linter.unusedSimpArgs false
namespace Go.Proofs.Ytdcdndfgdmcomaa.Q
open Go.RowKit Go.Proofs.Ytdcdndfgdmcomaa.F Go.Proofs.YtdcdndfgdmcomaaW.PrintWords Go.Proofs.YtdcdndfgdmcomaaW.PrintLast Go.Proofs.YtdcdndfgdmcomaaW.PrintMore
section
open Go.ChangeShapes Go.WideShapes
variable {H : Type} {enc : TypeId × Value → H} {P : Program} {W : World}
theorem open_ints_C {t e : TypeId} {k : IntKind} {fuel : Nat} {v : Value} {x : DataW H × List MemPlace} (ht : P.underlying t = some (.slice e)) (he : P.underlying e = some (.int k)) (hc : P.cellsOf e = 1)
    (h : DataW.trod enc P W 0 (fun _ => true) true fuel t [v] = some x) :
    ∃ (a : Option Addr) (l : List Int) (cap : Nat), v = .slice a l.length cap ∧ l.length ≤ cap ∧ l.length ≤ maxLen ∧ (Kd.int k).C W a l.length l ∧ ∀ n ∈ l, (Lit.int k n).wf = true := by
  rcases open_ints ht he hc h with ⟨hcs, _⟩ | ⟨a, len, cap, zs, hcs, _, hl, hm, hz, _, hcell, hw⟩
  · obtain rfl : v = .slice none 0 0 := by simpa using hcs
    exact ⟨none, [], 0, rfl, Nat.le_refl _, Nat.zero_le _, Kd.C_nil _ _, by simp⟩
  · obtain rfl : v = .slice (some a) len cap := by simpa using hcs
    simp only [if_true] at hz
    have hlen : (zs.take len).length = len := by rw [List.length_take, hz]; omega
    refine ⟨some a, zs.take len, cap, by rw [hlen], by rw [hlen]; exact hl, by rw [hlen]; omega, ⟨rfl, by rw [hlen]; unfold maxLen at hm; omega, fun _ => ⟨a, rfl, fun j p hj => ?_⟩⟩, fun n hn => hw n (List.mem_of_mem_take hn)⟩
    have hjl : j < len := by have := (List.getElem?_eq_some_iff.1 hj).1; omega
    refine ⟨[.int k p], rfl, rfl, fun i u hu => ?_⟩
    cases i with
    | zero =>
      obtain rfl : Value.int k p = u := by simpa using hu
      have := hcell j (by omega)
      rw [show j * (Kd.int k).sz + 0 = j from by show j * 1 + 0 = j; omega, this]
      rw [List.getElem?_take, if_pos hjl] at hj
      rw [List.getD_eq_getElem?_getD, hj]; rfl
    | succ i => simp at hu
theorem open_rows_C {t e q : TypeId} {k : IntKind} {fuel : Nat} {v : Value} {x : DataW H × List MemPlace} (ht : P.underlying t = some (.slice e)) (he : P.underlying e = some (.slice q)) (hq : P.underlying q = some (.int k))
    (ce : P.cellsOf e = 1) (cq : P.cellsOf q = 1) (h : DataW.trod enc P W 0 (fun _ => true) true fuel t [v] = some x) :
    ∃ (a : Option Addr) (l : List (List Int)) (cap : Nat), v = .slice a l.length cap ∧ l.length ≤ cap ∧ l.length ≤ maxLen ∧ (Kd.slice q (Kd.int k)).C W a l.length l ∧ (∀ r ∈ l, r.length ≤ maxLen) ∧ ∀ r ∈ l, ∀ n ∈ r, (Lit.int k n).wf = true := by
  rcases Go.Deep.open_int_rows ht he hq ce cq h with ⟨hcs, _⟩ | ⟨a, len, cap, A, L, C, Z, hcs, _, hl, hm, _, hrow⟩
  · obtain rfl : v = .slice none 0 0 := by simpa using hcs
    exact ⟨none, [], 0, rfl, Nat.le_refl _, Nat.zero_le _, Kd.C_nil _ _, by simp, by simp⟩
  · obtain rfl : v = .slice (some a) len cap := by simpa using hcs
    have hlen : ((List.range len).map fun r => (Z r).take (L r)).length = len := by simp
    have hel : ∀ r, r < len → ((Z r).take (L r)).length = L r := by
      intro r hr
      obtain ⟨_, h1, _, h3, _⟩ := hrow r (by omega)
      rw [List.length_take, h3]; omega
    refine ⟨some a, (List.range len).map fun r => (Z r).take (L r), cap, by rw [hlen], by rw [hlen]; exact hl, by rw [hlen]; omega, ⟨rfl, by rw [hlen]; unfold maxLen at hm; omega, fun _ => ⟨a, rfl, fun j p hj => ?_⟩⟩, ?_, ?_⟩
    · have hjl : j < len := by have := (List.getElem?_eq_some_iff.1 hj).1; omega
      have hp : (Z j).take (L j) = p := by
        rw [List.getElem?_map, List.getElem?_range hjl] at hj
        simpa using hj
      subst hp
      obtain ⟨h0, h1, h2, h3, h4, h5, h6⟩ := hrow j (by omega)
      have hL := hel j hjl
      refine ⟨[.slice (A j) (L j) (C j)], rfl, ⟨A j, C j, by rw [hL], by rw [hL]; exact h1, rfl, by rw [hL]; unfold maxLen at h2; omega, fun hpos => ?_⟩, fun i u hu => ?_⟩
      · rw [hL] at hpos
        cases hA : A j with
        | none => have := h5 hA; omega
        | some a' =>
          refine ⟨a', rfl, fun c y hc => ?_⟩
          have hcl : c < L j := by have := (List.getElem?_eq_some_iff.1 hc).1; omega
          refine ⟨[.int k y], rfl, rfl, fun i u hu => ?_⟩
          cases i with
          | zero =>
            obtain rfl : Value.int k y = u := by simpa using hu
            rw [show c * (Kd.int k).sz + 0 = c from by show c * 1 + 0 = c; omega, (h6 a' hA).2 c (by omega)]
            rw [List.getElem?_take, if_pos hcl] at hc
            rw [List.getD_eq_getElem?_getD, hc]; rfl
          | succ i => simp at hu
      · cases i with
        | zero =>
          obtain rfl : Value.slice (A j) (L j) (C j) = u := by simpa using hu
          rw [show j * (Kd.slice q (Kd.int k)).sz + 0 = j from by show j * 1 + 0 = j; omega]
          exact h0
        | succ i => simp at hu
    · intro r hr
      obtain ⟨j, hj, rfl⟩ := List.mem_map.1 hr
      have hjl := List.mem_range.1 hj
      obtain ⟨_, h1, h2, _⟩ := hrow j (by omega)
      rw [hel j hjl]; omega
    · intro r hr n hn
      obtain ⟨j, hj, rfl⟩ := List.mem_map.1 hr
      have hjl := List.mem_range.1 hj
      obtain ⟨_, _, _, _, h4, _⟩ := hrow j (by omega)
      exact h4 n (List.mem_of_mem_take hn)
end
end Go.Proofs.Ytdcdndfgdmcomaa.Q
