/- What a law's walk holds: made objects, each with blocks of its own, and the world in which the law was called; no condition. -/
import Derived.Test.YtekjnjejgefbhaaF0
import Derived.Test.YtekjnjejgefbhaaQBase
set_option linter.unusedVariables false
set_option linter.unusedSimpArgs false
namespace Go.Proofs.Ytekjnjejgefbhaa.Q
open Go.RowKit Go.Proofs.Ytekjnjejgefbhaa.F Go.Proofs.YtekjnjejgefbhaaW.PrintWords Go.Proofs.YtekjnjejgefbhaaW.PrintLast Go.Proofs.YtekjnjejgefbhaaW.PrintMore
structure Ob where
  ok : Nat → Prop
  P : World → Prop
/-- the object stays while its blocks do -/
def Firm (o : Ob) : Prop := ∀ W W' : World, o.P W → (∀ k, o.ok k → k < W.heap.size → W'.heap[k]? = W.heap[k]?) → o.P W'
structure St (w W : World) (L : List Ob) : Prop where
  below : Below w.heap.size w W
  own : ∀ o ∈ L, (∀ k, o.ok k → w.heap.size ≤ k ∧ k < W.heap.size) ∧ o.P W ∧ Firm o
  apart : L.Pairwise (fun a b => ∀ k, a.ok k → ¬ b.ok k)
def obR {α : Type} (d : Kd α) (t : Nat) (w : World) (ok : Nat → Prop) (v : Value) (xs : List α) : Ob := ⟨ok, fun W => Kd.R d t W w.heap.size ok v xs⟩
def obS {α : Type} (d : Kd α) (t : Nat) (w : World) (ok : Nat → Prop) (v : Value) (xs : List α) : Ob := ⟨ok, fun W => Kd.S d t W w.heap.size ok v xs⟩
section
variable {α β : Type} {d : Kd α} {d' : Kd β} {t t' : Nat} {w W W' : World} {ok ok' okq : Nat → Prop} {v v' : Value} {xs : List α} {ys : List β} {L L' : List Ob} {o o' : Ob}
theorem firmR : Firm (obR d t w ok v xs) := fun _ _ h hm => Kd.R_step h hm
theorem firmS : Firm (obS d t w ok v xs) := fun _ _ h hm => Kd.S_step h hm
theorem St.start (w : World) : St w w [] := ⟨Below.refl _ _, fun _ h => by simp at h, List.Pairwise.nil⟩
theorem St.quiet (h : St w W L) (hb : Below W.heap.size W W') : St w W' L := by
  have hs := h.below.size
  refine ⟨below_then h.below hs hb, fun o ho => ?_, h.apart⟩
  obtain ⟨h1, h2, h3⟩ := h.own o ho
  exact ⟨fun k hk => ⟨(h1 k hk).1, Nat.lt_of_lt_of_le (h1 k hk).2 hb.size⟩, h3 W W' h2 (fun k _ hk => hb.block k hk), h3⟩
theorem St.drawn (h : St w W L) (hd : Drawn0 W W') : St w W' L := h.quiet hd.below
theorem St.add (h : St w W L) (hb : Below W.heap.size W W') (hn : ∀ k, o.ok k → W.heap.size ≤ k ∧ k < W'.heap.size) (hP : o.P W') (hf : Firm o) : St w W' (o :: L) := by
  have hq := h.quiet hb
  have hs := h.below.size
  refine ⟨hq.below, fun p hp => ?_, List.Pairwise.cons (fun p hp k hk hk2 => ?_) hq.apart⟩
  · rcases List.mem_cons.1 hp with rfl | hp
    · exact ⟨fun k hk => ⟨Nat.le_trans hs (hn k hk).1, (hn k hk).2⟩, hP, hf⟩
    · exact hq.own p hp
  · have := (h.own p hp).1 k hk2
    have := hn k hk
    omega
theorem St.addR (h : St w W L) (hb : Below W.heap.size W W') (hr : Kd.R d t W' W.heap.size ok v xs) : ∃ ok1, St w W' (obR d t w ok1 v xs :: L) :=
  ⟨_, h.add (o := obR d t w (fun k => W.heap.size ≤ k ∧ k < W'.heap.size) v xs) hb (fun _ hk => hk) (Kd.R_mono (Kd.R_lower (Kd.R_bound hr) h.below.size) (fun k hk => ⟨hk.2.1, hk.2.2.1⟩)) firmR⟩
theorem St.addS (h : St w W L) (hb : Below W.heap.size W W') (hr : Kd.S d t W' W.heap.size ok v xs) : ∃ ok1, St w W' (obS d t w ok1 v xs :: L) :=
  ⟨_, h.add (o := obS d t w (fun k => W.heap.size ≤ k ∧ k < W'.heap.size) v xs) hb (fun _ hk => hk) (Kd.S_mono (Kd.S_lower (Kd.S_bound hr) h.below.size) (fun k hk => ⟨hk.2.1, hk.2.2.1⟩)) firmS⟩
/-- two made at once, apart -/
theorem St.add2 (h : St w W L) (hb : Below W.heap.size W W') (hn : ∀ k, o.ok k → W.heap.size ≤ k ∧ k < W'.heap.size) (hP : o.P W') (hf : Firm o) (hn' : ∀ k, o'.ok k → W.heap.size ≤ k ∧ k < W'.heap.size) (hP' : o'.P W') (hf' : Firm o')
    (ha : ∀ k, o.ok k → ¬ o'.ok k) : St w W' (o :: o' :: L) := by
  have h1 := h.add hb hn' hP' hf'
  have hs := h.below.size
  refine ⟨h1.below, fun p hp => ?_, List.Pairwise.cons (fun p hp k hk hk2 => ?_) h1.apart⟩
  · rcases List.mem_cons.1 hp with rfl | hp
    · exact ⟨fun k hk => ⟨Nat.le_trans hs (hn k hk).1, (hn k hk).2⟩, hP, hf⟩
    · exact h1.own p hp
  · rcases List.mem_cons.1 hp with rfl | hp
    · exact ha k hk hk2
    · have := (h.own p hp).1 k hk2
      have := hn k hk
      omega
theorem St.addRS (hE : d.E = []) (h : St w W L) (hb : Below W.heap.size W W') (hr : Kd.R d t W' W.heap.size (fun _ => True) v xs) (hr' : Kd.S d' t' W' W.heap.size (fun k => some k ≠ v.ownBlock) v' ys) : ∃ ok1 ok2, St w W' (obR d t w ok1 v xs :: obS d' t' w ok2 v' ys :: L) := by
  have hs := h.below.size
  refine ⟨_, _, h.add2 (o := obR d t w (fun k => some k = v.ownBlock ∧ W.heap.size ≤ k ∧ k < W'.heap.size) v xs) (o' := obS d' t' w (fun k => some k ≠ v.ownBlock ∧ W.heap.size ≤ k ∧ k < W'.heap.size) v' ys) hb (fun _ hk => hk.2) ?_ firmR (fun _ hk => hk.2) ?_ firmS (fun _ hk hk2 => hk2.1 hk.1)⟩
  · exact Kd.R_mono (Kd.R_lower (Kd.R_bound (Kd.R_tight hE hr)) hs) (fun k hk => ⟨hk.1, hk.2.1, hk.2.2.1⟩)
  · exact Kd.S_mono (Kd.S_lower (Kd.S_bound hr') hs) (fun k hk => ⟨hk.1, hk.2.1, hk.2.2.1⟩)
theorem St.get (h : St w W L) (i : Nat) (hi : L[i]? = some o) : o.P W := (h.own o (List.mem_of_getElem? hi)).2.1
theorem St.mark (h : St w W L) (i : Nat) (hi : L[i]? = some o) (he : o'.ok = o.ok) (hf : Firm o') (hb : Below w.heap.size w W') (hk : Kept W W' o.ok) (hP : o'.P W') (hL : L.set i o' = L') : St w W' L' := by
  subst hL
  have hil := (List.getElem?_eq_some_iff.1 hi).1
  have hio := (List.getElem?_eq_some_iff.1 hi).2
  have hap : ∀ a b, a < L.length → (hb : b < L.length) → a ≠ b → ∀ x y, L[a]? = some x → L[b]? = some y → ∀ k, x.ok k → ¬ y.ok k := by
    intro a b ha hb hne x y hx hy k hxk hyk
    have hp := List.pairwise_iff_getElem.1 h.apart
    rcases Nat.lt_or_gt_of_ne hne with hlt | hlt
    · have := hp a b ha hb hlt k
      rw [List.getElem?_eq_getElem ha] at hx
      rw [List.getElem?_eq_getElem hb] at hy
      injection hx with hx; injection hy with hy
      rw [hx, hy] at this
      exact this hxk hyk
    · have := hp b a hb ha hlt k
      rw [List.getElem?_eq_getElem ha] at hx
      rw [List.getElem?_eq_getElem hb] at hy
      injection hx with hx; injection hy with hy
      rw [hx, hy] at this
      exact this hyk hxk
  refine ⟨hb, fun p hp => ?_, List.pairwise_iff_getElem.2 fun a b ha hb' hlt k => ?_⟩
  · obtain ⟨j, hj, rfl⟩ := List.mem_iff_getElem.1 hp
    rw [List.length_set] at hj
    by_cases hji : i = j
    · subst hji
      rw [List.getElem_set_self]
      have h1 := (h.own o (List.mem_of_getElem? hi)).1
      exact ⟨fun k hk' => ⟨(h1 k (he ▸ hk')).1, Nat.lt_of_lt_of_le (h1 k (he ▸ hk')).2 hk.1⟩, hP, hf⟩
    · rw [List.getElem_set_ne hji]
      obtain ⟨h1, h2, h3⟩ := h.own L[j] (List.getElem_mem hj)
      exact ⟨fun k hk' => ⟨(h1 k hk').1, Nat.lt_of_lt_of_le (h1 k hk').2 hk.1⟩, h3 W W' h2 (fun k hk' hlt => hk.2 k hlt (hap j i hj hil (Ne.symm hji) _ _ (List.getElem?_eq_getElem hj) hi k hk')), h3⟩
  · rw [List.length_set] at ha hb'
    have hx : ∀ j (hj : j < L.length) (hj' : j < (L.set i o').length), ((L.set i o')[j]).ok = (L[j]).ok := by
      intro j hj hj'
      by_cases hji : i = j
      · subst hji; rw [List.getElem_set_self, he, hio]
      · rw [List.getElem_set_ne hji]
    rw [hx a ha, hx b hb']
    exact List.pairwise_iff_getElem.1 h.apart a b ha hb' hlt k
/-- what an object is, read -/
def Reads (d : Kd α) (W : World) (v : Value) (xs : List α) : Prop := ∃ A c, v = .slice A xs.length c ∧ xs.length ≤ c ∧ d.C W A xs.length xs
theorem St.readR (h : St w W L) (i : Nat) (hi : L[i]? = some (obR d t w ok v xs)) : Reads d W v xs := Kd.R_reads (h.get i hi)
theorem St.readS (h : St w W L) (i : Nat) (hi : L[i]? = some (obS d t w ok v xs)) : Reads d W v xs := Kd.R_reads (Kd.S_R (h.get i hi))
/-- what came in, read -/
theorem St.came (h : St w W L) {A : Option Addr} {c : Nat} (hr : d.C w A xs.length xs) (hc : xs.length ≤ c) : Reads d W (.slice A xs.length c) xs := ⟨A, c, rfl, hc, Kd.C_below hr h.below⟩
end
end Go.Proofs.Ytekjnjejgefbhaa.Q
