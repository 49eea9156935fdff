/- Plain Lean: what the printed functions compute, topic by topic; conditions: those that each theorem names. -/
import Derived.Test.YtekjnjejgefbhaaF0
import Derived.Test.YtekjnjejgefbhaaF1
import Derived.Test.YtekjnjejgefbhaaF2
import Derived.Test.YtekjnjejgefbhaaF8
import Derived.Test.YtekjnjejgefbhaaF9
import Derived.Test.YtekjnjejgefbhaaF3
import Derived.Test.YtekjnjejgefbhaaF4
import Derived.Test.YtekjnjejgefbhaaF6
import Derived.Laws.CopyRow
import Derived.Laws.CopyOwn
import Derived.Laws.MakeOwn
import Derived.Laws.Tables
import Derived.IntWalk
import Derived.Test.YtekjnjejgefbhaaF7
import Derived.Deep.DeepCutAuto
import Derived.Deep.Matrix
import Derived.Lib.SmallJoins
import Derived.ProofKit
import Derived.OpenShut
import Derived.ChangeSlices
set_option linter.unusedVariables false
set_option linter.unusedSimpArgs false
namespace Go.Proofs.Ytekjnjejgefbhaa.Q
open Go.RowKit Go.Proofs.Ytekjnjejgefbhaa.F Go.Proofs.YtekjnjejgefbhaaW.PrintWords Go.Proofs.YtekjnjejgefbhaaW.PrintLast Go.Proofs.YtekjnjejgefbhaaW.PrintMore
section
variable {α β : Type} {r : α}
theorem ev_pos {c : Prop} [Decidable c] {A B : Nat → Option α} (h : c) (hA : Ev A r) : Ev (fun k => if c then A k else B k) r := by
  simp only [if_pos h]; exact hA
theorem ev_neg {c : Prop} [Decidable c] {A B : Nat → Option α} (h : ¬ c) (hB : Ev B r) : Ev (fun k => if c then A k else B k) r := by
  simp only [if_neg h]; exact hB
theorem ev_ite {c : Prop} [Decidable c] {A B : Nat → Option α} (hA : c → Ev A r) (hB : ¬ c → Ev B r) : Ev (fun k => if c then A k else B k) r := by
  by_cases h : c
  · exact ev_pos h (hA h)
  · exact ev_neg h (hB h)
theorem ev_bindc {o : Option β} {b : β} {f : Nat → β → Option α} (h : o = some b) (hf : Ev (fun k => f k b) r) : Ev (fun k => o.bind (f k)) r := by
  subst h; exact hf
theorem ev_val {a : α} (h : a = r) : Ev (fun _ => some a) r := by subst h; exact ⟨0, fun _ _ => rfl⟩
theorem ev_eq {g : Nat → Option α} {a : α} (h : Ev g a) (e : a = r) : Ev g r := e ▸ h
theorem ev_unique {g : Nat → Option α} {a b : α} (h : Ev g a) (h' : Ev g b) : a = b := by
  obtain ⟨K, h⟩ := h
  obtain ⟨K', h'⟩ := h'
  have e := (h (max K K') (by omega)).symm.trans (h' (max K K') (by omega))
  exact Option.some.inj e
end
theorem wrap_nat {n : Nat} (h : n ≤ 9223372036854775807) : wrap64 (n : Int) = n := by unfold wrap64; omega
theorem wrap_succ {n : Nat} (h : n < 9223372036854775807) : wrap64 ((n : Int) + 1) = ((n + 1 : Nat) : Int) := by unfold wrap64; omega
theorem wrap_id {i : Int} (h0 : -9223372036854775808 ≤ i) (h : i ≤ 9223372036854775807) : wrap64 i = i := by unfold wrap64; omega
theorem rd_nat (l : List Int) (i : Nat) : rd l (i : Int) = l.getD i 0 := by unfold rd; simp
theorem rd_eq (l : List Int) (i : Nat) (h : i < l.length) : rd l (i : Int) = l[i] := by rw [rd_nat]; simp [h]
theorem drop_rd (l : List Int) (i : Nat) (h : i < l.length) : l.drop i = rd l (i : Int) :: l.drop (i + 1) := by
  rw [rd_eq l i h]; exact List.drop_eq_getElem_cons h
theorem take_rd (l : List Int) (i : Nat) (h : i < l.length) : l.take (i + 1) = l.take i ++ [rd l (i : Int)] := by
  rw [rd_eq l i h]; exact List.take_succ_eq_append_getElem h
theorem rd_mem (l : List Int) (i : Nat) (h : i < l.length) : rd l (i : Int) ∈ l := by rw [rd_eq l i h]; exact List.getElem_mem h
/-- Downward: what holds at n, and is handed down, holds at each i up to n. -/
theorem downTo {P : Nat → Prop} (n : Nat) (h0 : P n) (hs : ∀ i, i < n → P (i + 1) → P i) : ∀ i, i ≤ n → P i := by
  intro i hi
  obtain ⟨d, rfl⟩ : ∃ d, n = i + d := ⟨n - i, by omega⟩
  clear hi
  induction d generalizing i with
  | zero => simpa using h0
  | succ d ih => exact hs i (by omega) (ih (i + 1) (by rwa [show i + 1 + d = i + (d + 1) by omega]) (fun j hj => hs j (by omega)))
theorem rd_set (l : List Int) (i j : Nat) (v : Int) (h : i < l.length) : rd (l.set i v) (j : Int) = if i = j then v else rd l (j : Int) := by
  rw [rd_nat, rd_nat, List.getD_eq_getElem?_getD, List.getElem?_set]
  by_cases e : i = j
  · subst e; rw [if_pos rfl, if_pos h, if_pos rfl]; rfl
  · rw [if_neg e, if_neg e, List.getD_eq_getElem?_getD]
theorem rd_reverse (l : List Int) (i : Nat) (h : i < l.length) : rd l.reverse (i : Int) = rd l ((l.length - 1 - i : Nat) : Int) := by
  rw [rd_eq _ i (by simpa using h), rd_eq _ (l.length - 1 - i) (by omega)]
  simp [List.getElem_reverse]
end Go.Proofs.Ytekjnjejgefbhaa.Q

set_option linter.unusedVariables false
set_option linter.unusedSimpArgs false
namespace Go.Proofs.Ytekjnjejgefbhaa.Q
open Go.RowKit Go.Proofs.Ytekjnjejgefbhaa.F Go.Proofs.YtekjnjejgefbhaaW.PrintWords Go.Proofs.YtekjnjejgefbhaaW.PrintLast Go.Proofs.YtekjnjejgefbhaaW.PrintMore
structure Ob where
  ok : Nat → Prop
  P : World → Prop
/-- the object stays while its blocks do -/
def Firm (o : Ob) : Prop := ∀ W W' : World, o.P W → (∀ k, o.ok k → k < W.heap.size → W'.heap[k]? = W.heap[k]?) → o.P W'
structure St (w W : World) (L : List Ob) : Prop where
  below : Below w.heap.size w W
  own : ∀ o ∈ L, (∀ k, o.ok k → w.heap.size ≤ k ∧ k < W.heap.size) ∧ o.P W ∧ Firm o
  apart : L.Pairwise (fun a b => ∀ k, a.ok k → ¬ b.ok k)
def obR {α : Type} (d : Kd α) (t : Nat) (w : World) (ok : Nat → Prop) (v : Value) (xs : List α) : Ob := ⟨ok, fun W => Kd.R d t W w.heap.size ok v xs⟩
def obS {α : Type} (d : Kd α) (t : Nat) (w : World) (ok : Nat → Prop) (v : Value) (xs : List α) : Ob := ⟨ok, fun W => Kd.S d t W w.heap.size ok v xs⟩
section
variable {α β : Type} {d : Kd α} {d' : Kd β} {t t' : Nat} {w W W' : World} {ok ok' okq : Nat → Prop} {v v' : Value} {xs : List α} {ys : List β} {L L' : List Ob} {o o' : Ob}
theorem firmR : Firm (obR d t w ok v xs) := fun _ _ h hm => Kd.R_step h hm
theorem firmS : Firm (obS d t w ok v xs) := fun _ _ h hm => Kd.S_step h hm
theorem St.start (w : World) : St w w [] := ⟨Below.refl _ _, fun _ h => by simp at h, List.Pairwise.nil⟩
theorem St.quiet (h : St w W L) (hb : Below W.heap.size W W') : St w W' L := by
  have hs := h.below.size
  refine ⟨below_then h.below hs hb, fun o ho => ?_, h.apart⟩
  obtain ⟨h1, h2, h3⟩ := h.own o ho
  exact ⟨fun k hk => ⟨(h1 k hk).1, Nat.lt_of_lt_of_le (h1 k hk).2 hb.size⟩, h3 W W' h2 (fun k _ hk => hb.block k hk), h3⟩
theorem St.drawn (h : St w W L) (hd : Drawn0 W W') : St w W' L := h.quiet hd.below
theorem St.add (h : St w W L) (hb : Below W.heap.size W W') (hn : ∀ k, o.ok k → W.heap.size ≤ k ∧ k < W'.heap.size) (hP : o.P W') (hf : Firm o) : St w W' (o :: L) := by
  have hq := h.quiet hb
  have hs := h.below.size
  refine ⟨hq.below, fun p hp => ?_, List.Pairwise.cons (fun p hp k hk hk2 => ?_) hq.apart⟩
  · rcases List.mem_cons.1 hp with rfl | hp
    · exact ⟨fun k hk => ⟨Nat.le_trans hs (hn k hk).1, (hn k hk).2⟩, hP, hf⟩
    · exact hq.own p hp
  · have := (h.own p hp).1 k hk2
    have := hn k hk
    omega
theorem St.addR (h : St w W L) (hb : Below W.heap.size W W') (hr : Kd.R d t W' W.heap.size ok v xs) : ∃ ok1, St w W' (obR d t w ok1 v xs :: L) :=
  ⟨_, h.add (o := obR d t w (fun k => W.heap.size ≤ k ∧ k < W'.heap.size) v xs) hb (fun _ hk => hk) (Kd.R_mono (Kd.R_lower (Kd.R_bound hr) h.below.size) (fun k hk => ⟨hk.2.1, hk.2.2.1⟩)) firmR⟩
theorem St.addS (h : St w W L) (hb : Below W.heap.size W W') (hr : Kd.S d t W' W.heap.size ok v xs) : ∃ ok1, St w W' (obS d t w ok1 v xs :: L) :=
  ⟨_, h.add (o := obS d t w (fun k => W.heap.size ≤ k ∧ k < W'.heap.size) v xs) hb (fun _ hk => hk) (Kd.S_mono (Kd.S_lower (Kd.S_bound hr) h.below.size) (fun k hk => ⟨hk.2.1, hk.2.2.1⟩)) firmS⟩
/-- two made at once, apart -/
theorem St.add2 (h : St w W L) (hb : Below W.heap.size W W') (hn : ∀ k, o.ok k → W.heap.size ≤ k ∧ k < W'.heap.size) (hP : o.P W') (hf : Firm o) (hn' : ∀ k, o'.ok k → W.heap.size ≤ k ∧ k < W'.heap.size) (hP' : o'.P W') (hf' : Firm o')
    (ha : ∀ k, o.ok k → ¬ o'.ok k) : St w W' (o :: o' :: L) := by
  have h1 := h.add hb hn' hP' hf'
  have hs := h.below.size
  refine ⟨h1.below, fun p hp => ?_, List.Pairwise.cons (fun p hp k hk hk2 => ?_) h1.apart⟩
  · rcases List.mem_cons.1 hp with rfl | hp
    · exact ⟨fun k hk => ⟨Nat.le_trans hs (hn k hk).1, (hn k hk).2⟩, hP, hf⟩
    · exact h1.own p hp
  · rcases List.mem_cons.1 hp with rfl | hp
    · exact ha k hk hk2
    · have := (h.own p hp).1 k hk2
      have := hn k hk
      omega
theorem St.addRS (hE : d.E = []) (h : St w W L) (hb : Below W.heap.size W W') (hr : Kd.R d t W' W.heap.size (fun _ => True) v xs) (hr' : Kd.S d' t' W' W.heap.size (fun k => some k ≠ v.ownBlock) v' ys) : ∃ ok1 ok2, St w W' (obR d t w ok1 v xs :: obS d' t' w ok2 v' ys :: L) := by
  have hs := h.below.size
  refine ⟨_, _, h.add2 (o := obR d t w (fun k => some k = v.ownBlock ∧ W.heap.size ≤ k ∧ k < W'.heap.size) v xs) (o' := obS d' t' w (fun k => some k ≠ v.ownBlock ∧ W.heap.size ≤ k ∧ k < W'.heap.size) v' ys) hb (fun _ hk => hk.2) ?_ firmR (fun _ hk => hk.2) ?_ firmS (fun _ hk hk2 => hk2.1 hk.1)⟩
  · exact Kd.R_mono (Kd.R_lower (Kd.R_bound (Kd.R_tight hE hr)) hs) (fun k hk => ⟨hk.1, hk.2.1, hk.2.2.1⟩)
  · exact Kd.S_mono (Kd.S_lower (Kd.S_bound hr') hs) (fun k hk => ⟨hk.1, hk.2.1, hk.2.2.1⟩)
theorem St.get (h : St w W L) (i : Nat) (hi : L[i]? = some o) : o.P W := (h.own o (List.mem_of_getElem? hi)).2.1
theorem St.mark (h : St w W L) (i : Nat) (hi : L[i]? = some o) (he : o'.ok = o.ok) (hf : Firm o') (hb : Below w.heap.size w W') (hk : Kept W W' o.ok) (hP : o'.P W') (hL : L.set i o' = L') : St w W' L' := by
  subst hL
  have hil := (List.getElem?_eq_some_iff.1 hi).1
  have hio := (List.getElem?_eq_some_iff.1 hi).2
  have hap : ∀ a b, a < L.length → (hb : b < L.length) → a ≠ b → ∀ x y, L[a]? = some x → L[b]? = some y → ∀ k, x.ok k → ¬ y.ok k := by
    intro a b ha hb hne x y hx hy k hxk hyk
    have hp := List.pairwise_iff_getElem.1 h.apart
    rcases Nat.lt_or_gt_of_ne hne with hlt | hlt
    · have := hp a b ha hb hlt k
      rw [List.getElem?_eq_getElem ha] at hx
      rw [List.getElem?_eq_getElem hb] at hy
      injection hx with hx; injection hy with hy
      rw [hx, hy] at this
      exact this hxk hyk
    · have := hp b a hb ha hlt k
      rw [List.getElem?_eq_getElem ha] at hx
      rw [List.getElem?_eq_getElem hb] at hy
      injection hx with hx; injection hy with hy
      rw [hx, hy] at this
      exact this hyk hxk
  refine ⟨hb, fun p hp => ?_, List.pairwise_iff_getElem.2 fun a b ha hb' hlt k => ?_⟩
  · obtain ⟨j, hj, rfl⟩ := List.mem_iff_getElem.1 hp
    rw [List.length_set] at hj
    by_cases hji : i = j
    · subst hji
      rw [List.getElem_set_self]
      have h1 := (h.own o (List.mem_of_getElem? hi)).1
      exact ⟨fun k hk' => ⟨(h1 k (he ▸ hk')).1, Nat.lt_of_lt_of_le (h1 k (he ▸ hk')).2 hk.1⟩, hP, hf⟩
    · rw [List.getElem_set_ne hji]
      obtain ⟨h1, h2, h3⟩ := h.own L[j] (List.getElem_mem hj)
      exact ⟨fun k hk' => ⟨(h1 k hk').1, Nat.lt_of_lt_of_le (h1 k hk').2 hk.1⟩, h3 W W' h2 (fun k hk' hlt => hk.2 k hlt (hap j i hj hil (Ne.symm hji) _ _ (List.getElem?_eq_getElem hj) hi k hk')), h3⟩
  · rw [List.length_set] at ha hb'
    have hx : ∀ j (hj : j < L.length) (hj' : j < (L.set i o').length), ((L.set i o')[j]).ok = (L[j]).ok := by
      intro j hj hj'
      by_cases hji : i = j
      · subst hji; rw [List.getElem_set_self, he, hio]
      · rw [List.getElem_set_ne hji]
    rw [hx a ha, hx b hb']
    exact List.pairwise_iff_getElem.1 h.apart a b ha hb' hlt k
/-- what an object is, read -/
def Reads (d : Kd α) (W : World) (v : Value) (xs : List α) : Prop := ∃ A c, v = .slice A xs.length c ∧ xs.length ≤ c ∧ d.C W A xs.length xs
theorem St.readR (h : St w W L) (i : Nat) (hi : L[i]? = some (obR d t w ok v xs)) : Reads d W v xs := Kd.R_reads (h.get i hi)
theorem St.readS (h : St w W L) (i : Nat) (hi : L[i]? = some (obS d t w ok v xs)) : Reads d W v xs := Kd.R_reads (Kd.S_R (h.get i hi))
/-- what came in, read -/
theorem St.came (h : St w W L) {A : Option Addr} {c : Nat} (hr : d.C w A xs.length xs) (hc : xs.length ≤ c) : Reads d W (.slice A xs.length c) xs := ⟨A, c, rfl, hc, Kd.C_below hr h.below⟩
end
end Go.Proofs.Ytekjnjejgefbhaa.Q

set_option linter.unusedVariables false
set_option linter.unusedSimpArgs false
namespace Go.Proofs.Ytekjnjejgefbhaa.Q
open Go.RowKit Go.Proofs.Ytekjnjejgefbhaa.F Go.Proofs.YtekjnjejgefbhaaW.PrintWords Go.Proofs.YtekjnjejgefbhaaW.PrintLast Go.Proofs.YtekjnjejgefbhaaW.PrintMore
theorem eqIntS_l0 (a b : List Int) (hl : a.length = b.length) (hb : a.length ≤ 1152921504606846976) : ∀ (d i : Nat), i + d = a.length → Ev (fun k => laws_eqIntS.l0 k a b (i : Int)) (decide (a.drop i = b.drop i)) := by
  intro d
  induction d with
  | zero =>
    intro i h
    refine Ev.step (fun k => by rw [laws_eqIntS.l0]) ?_
    refine ev_neg (by omega) (ev_val ?_)
    rw [List.drop_of_length_le (by omega), List.drop_of_length_le (by omega)]
    simp
  | succ d ih =>
    intro i h
    refine Ev.step (fun k => by rw [laws_eqIntS.l0]) ?_
    refine ev_pos (by omega) (ev_pos (by omega) (ev_pos (by omega) (ev_ite (fun he => ?_) (fun he => ev_val ?_))))
    · rw [wrap_succ (by omega)]
      refine ev_eq (ih (i + 1) (by omega)) ?_
      rw [drop_rd a i (by omega), drop_rd b i (by omega), he]
      simp
    · rw [drop_rd a i (by omega), drop_rd b i (by omega)]
      simp [he]
theorem eqIntS_ev (a b : List Int) (hb : a.length ≤ 1152921504606846976) : Ev (fun k => laws_eqIntS.f k a b) (decide (a = b)) := by
  unfold laws_eqIntS.f
  refine ev_ite (fun h => ?_) (fun h => ev_val ?_)
  · have := eqIntS_l0 a b (by omega) hb a.length 0 (by omega)
    simpa using this
  · have : a ≠ b := fun e => h (by rw [e])
    simp [this]
theorem eqIntS_same (a : List Int) (hb : a.length ≤ 1048576) : Ev (fun k => laws_eqIntS.f k a a) true := ev_eq (eqIntS_ev a a (by omega)) (by simp)
end Go.Proofs.Ytekjnjejgefbhaa.Q

set_option linter.unusedVariables false
set_option linter.unusedSimpArgs false
namespace Go.Proofs.Ytekjnjejgefbhaa.Q
open Go.RowKit Go.Proofs.Ytekjnjejgefbhaa.F Go.Proofs.YtekjnjejgefbhaaW.PrintWords Go.Proofs.YtekjnjejgefbhaaW.PrintLast Go.Proofs.YtekjnjejgefbhaaW.PrintMore
theorem toIntS_l0 (l : List Int) (hl : l.length ≤ 1048576) : ∀ (d i : Nat), i + d = l.length → Ev (fun k => laws_toIntS.l0 k l (l.take i ++ List.replicate d 0) (i : Int)) l := by
  intro d
  induction d with
  | zero =>
    intro i h
    refine Ev.step (fun k => by rw [laws_toIntS.l0]) ?_
    refine ev_neg (by omega) (ev_val ?_)
    simp [List.take_of_length_le (show l.length ≤ i by omega)]
  | succ d ih =>
    intro i h
    have hi : i < l.length := by omega
    refine Ev.step (fun k => by rw [laws_toIntS.l0]) ?_
    refine ev_pos (by omega) (ev_pos (by omega) (ev_pos (by simp; omega) ?_))
    have e : (l.take i ++ List.replicate (d + 1) 0).set (i : Int).toNat (rd l (i : Int)) = l.take (i + 1) ++ List.replicate d 0 := by
      rw [take_rd l i hi, List.set_append_right _ _ (by simp; omega)]
      simp [List.replicate_succ, Nat.min_eq_left (Nat.le_of_lt hi)]
    rw [e, wrap_succ (by omega)]
    exact ih (i + 1) (by omega)
theorem toIntS_ev (l : List Int) (hl : l.length ≤ 1048576) : Ev (fun k => laws_toIntS.f k l) l := by
  unfold laws_toIntS.f
  refine ev_pos (by omega) (ev_pos (by simp; omega) ?_)
  have := toIntS_l0 l hl l.length 0 (by omega)
  simpa using this
end Go.Proofs.Ytekjnjejgefbhaa.Q

set_option linter.unusedVariables false
set_option linter.unusedSimpArgs false
namespace Go.Proofs.Ytekjnjejgefbhaa.Q
open Go.RowKit Go.Proofs.Ytekjnjejgefbhaa.F Go.Proofs.YtekjnjejgefbhaaW.PrintWords Go.Proofs.YtekjnjejgefbhaaW.PrintLast Go.Proofs.YtekjnjejgefbhaaW.PrintMore
/-- how often the numbers 1 to n occur -/
def sumCount (l : List Int) : Nat → Nat
  | 0 => 0
  | n + 1 => sumCount l n + l.countP (fun x => decide (x = ((n + 1 : Nat) : Int)))
theorem countP_split (l : List Int) (p q r : Int → Bool) (h : ∀ x ∈ l, (if r x then 1 else 0) = (if p x then 1 else 0) + (if q x then (1 : Nat) else 0)) : l.countP r = l.countP p + l.countP q := by
  induction l with
  | nil => rfl
  | cons x l ih =>
    have h1 := h x (by simp)
    have h2 := ih (fun y hy => h y (by simp [hy]))
    simp only [List.countP_cons]
    omega
theorem sumCount_eq (l : List Int) (n : Nat) : sumCount l n = l.countP (fun x => decide (1 ≤ x ∧ x ≤ (n : Int))) := by
  induction n with
  | zero =>
    rw [sumCount]; symm
    rw [List.countP_eq_zero]
    intro x _; simp; omega
  | succ n ih =>
    rw [sumCount, ih]; symm
    apply countP_split
    intro x _
    by_cases h1 : 1 ≤ x ∧ x ≤ (n : Int)
    · have : ¬ x = ((n + 1 : Nat) : Int) := by omega
      have h3 : 1 ≤ x ∧ x ≤ ((n + 1 : Nat) : Int) := by omega
      simp only [decide_eq_true h1, decide_eq_true h3, decide_eq_false this]; rfl
    · by_cases h2 : x = ((n + 1 : Nat) : Int)
      · have h3 : 1 ≤ x ∧ x ≤ ((n + 1 : Nat) : Int) := by omega
        simp only [decide_eq_false h1, decide_eq_true h3, decide_eq_true h2]; rfl
      · have h3 : ¬ (1 ≤ x ∧ x ≤ ((n + 1 : Nat) : Int)) := by omega
        simp only [decide_eq_false h1, decide_eq_false h3, decide_eq_false h2]; rfl
theorem countP_pos_of_mem {l : List Int} {v : Int} (h : v ∈ l) : 1 ≤ l.countP (fun x => decide (x = v)) := by
  have : 0 < l.countP (fun x => decide (x = v)) := List.countP_pos_iff.2 ⟨v, h, by simp⟩
  omega
theorem mem_of_countP {l : List Int} {v : Int} (h : 1 ≤ l.countP (fun x => decide (x = v))) : v ∈ l := by
  obtain ⟨x, hx, he⟩ := List.countP_pos_iff.1 (show 0 < l.countP (fun x => decide (x = v)) by omega)
  rw [decide_eq_true_eq] at he
  exact he ▸ hx
theorem nodup_count {l : List Int} (h : l.Nodup) (v : Int) : l.countP (fun x => decide (x = v)) ≤ 1 := by
  have := List.nodup_iff_count.1 h v
  rw [List.count] at this
  refine Nat.le_trans (Nat.le_of_eq ?_) this
  apply List.countP_congr
  intro x _; simp
theorem nodup_of_count {l : List Int} (h : ∀ v, l.countP (fun x => decide (x = v)) ≤ 1) : l.Nodup := by
  rw [List.nodup_iff_count]
  intro v
  rw [List.count]
  refine Nat.le_trans (Nat.le_of_eq ?_) (h v)
  apply List.countP_congr
  intro x _; simp
theorem sumCount_ge {l : List Int} (n : Nat) (h : ∀ v : Nat, 1 ≤ v → v ≤ n → (v : Int) ∈ l) : n ≤ sumCount l n := by
  induction n with
  | zero => omega
  | succ n ih =>
    have h1 := ih (fun v a b => h v a (by omega))
    have h2 := countP_pos_of_mem (h (n + 1) (by omega) (by omega))
    rw [sumCount]; omega
theorem sumCount_le {l : List Int} (hd : l.Nodup) (n : Nat) : sumCount l n ≤ n := by
  induction n with
  | zero => simp [sumCount]
  | succ n ih =>
    have := nodup_count hd ((n + 1 : Nat) : Int)
    rw [sumCount]; omega
theorem sumCount_tight {l : List Int} (n : Nat) (hle : sumCount l n ≤ n) (h : ∀ v : Nat, 1 ≤ v → v ≤ n → (v : Int) ∈ l) : ∀ v : Nat, 1 ≤ v → v ≤ n → l.countP (fun x => decide (x = (v : Int))) = 1 := by
  induction n with
  | zero => intro v a b; omega
  | succ n ih =>
    have h1 := sumCount_ge n (fun v a b => h v a (by omega))
    have h2 := countP_pos_of_mem (h (n + 1) (by omega) (by omega))
    rw [sumCount] at hle
    intro v a b
    by_cases e : v = n + 1
    · subst e; omega
    · exact ih (by omega) (fun v a b => h v a (by omega)) v a (by omega)
theorem sumCount_full {l : List Int} (hd : l.Nodup) (n : Nat) (hge : n ≤ sumCount l n) : ∀ v : Nat, 1 ≤ v → v ≤ n → (v : Int) ∈ l := by
  induction n with
  | zero => intro v a b; omega
  | succ n ih =>
    have h1 := sumCount_le hd n
    have h2 := nodup_count hd ((n + 1 : Nat) : Int)
    rw [sumCount] at hge
    intro v a b
    by_cases e : v = n + 1
    · subst e; exact mem_of_countP (by omega)
    · exact ih (by omega) v a (by omega)
/-- Each number from 1 to the length occurs: just where none occurs twice and none is greater. -/
theorem once_iff {l : List Int} (hp : ∀ x ∈ l, 1 ≤ x) : (∀ v : Nat, 1 ≤ v → v ≤ l.length → (v : Int) ∈ l) ↔ (l.Nodup ∧ ∀ x ∈ l, x ≤ (l.length : Int)) := by
  constructor
  · intro h
    have h1 := sumCount_ge l.length h
    have h2 : sumCount l l.length ≤ l.length := by rw [sumCount_eq]; exact List.countP_le_length
    have h3 : l.countP (fun x => decide (1 ≤ x ∧ x ≤ (l.length : Int))) = l.length := by rw [← sumCount_eq]; omega
    have h4 : ∀ x ∈ l, x ≤ (l.length : Int) := by
      intro x hx
      have := List.countP_eq_length.1 h3 x hx
      simp at this; exact this.2
    refine ⟨nodup_of_count (fun v => ?_), h4⟩
    by_cases hv : v ∈ l
    · have a := hp v hv
      have b := h4 v hv
      obtain ⟨m, rfl⟩ : ∃ m : Nat, v = (m : Int) := ⟨v.toNat, by omega⟩
      exact Nat.le_of_eq (sumCount_tight l.length h2 h m (by omega) (by omega))
    · rw [Nat.le_one_iff_eq_zero_or_eq_one]; left
      rw [List.countP_eq_zero]
      intro x hx he
      rw [decide_eq_true_eq] at he
      exact hv (he ▸ hx)
  · rintro ⟨hd, hle⟩
    refine sumCount_full hd l.length ?_
    rw [sumCount_eq, List.countP_eq_length.2]
    · exact Nat.le_refl _
    · intro x hx; rw [decide_eq_true_eq]; exact ⟨hp x hx, hle x hx⟩
/-- how many of the first j indices stand ahead of index i: by a smaller number, or by an equal one at a smaller index -/
def placeTo (l : List Int) (i : Nat) : Nat → Nat
  | 0 => 0
  | j + 1 => placeTo l i j + (if rd l (j : Int) < rd l (i : Int) ∨ (rd l (j : Int) = rd l (i : Int) ∧ j < i) then 1 else 0)
def placeOf (l : List Int) (i : Nat) : Int := ((1 + placeTo l i l.length : Nat) : Int)
/-- the places of a list's numbers -/
def places (l : List Int) : List Int := (List.range l.length).map (placeOf l)
theorem placeTo_le (l : List Int) (i : Nat) : ∀ j, placeTo l i j + (if i < j then 1 else 0) ≤ j := by
  intro j
  induction j with
  | zero => simp [placeTo]
  | succ j ih =>
    rw [placeTo]
    by_cases e : j = i
    · subst e
      have : ¬ (rd l (j : Int) < rd l (j : Int) ∨ (rd l (j : Int) = rd l (j : Int) ∧ j < j)) := by omega
      rw [if_neg this]
      rw [if_neg (by omega)] at ih
      rw [if_pos (by omega)]; omega
    · by_cases h2 : i < j
      · rw [if_pos h2] at ih
        rw [if_pos (show i < j + 1 by omega)]
        split <;> omega
      · rw [if_neg h2] at ih
        rw [if_neg (show ¬ i < j + 1 by omega)]
        split <;> omega
theorem placeTo_lt {l : List Int} {i i' : Nat} (h : rd l (i : Int) < rd l (i' : Int) ∨ (rd l (i : Int) = rd l (i' : Int) ∧ i < i')) : ∀ j, placeTo l i j + (if i < j then 1 else 0) ≤ placeTo l i' j := by
  intro j
  induction j with
  | zero => simp [placeTo]
  | succ j ih =>
    rw [placeTo, placeTo]
    by_cases e : j = i
    · subst e
      have : ¬ (rd l (j : Int) < rd l (j : Int) ∨ (rd l (j : Int) = rd l (j : Int) ∧ j < j)) := by omega
      rw [if_neg this, if_pos h]
      rw [if_neg (by omega)] at ih
      rw [if_pos (by omega)]; omega
    · have hs : (if i < j + 1 then 1 else 0) = (if i < j then 1 else 0) := by
        by_cases h2 : i < j
        · rw [if_pos h2, if_pos (by omega)]
        · rw [if_neg h2, if_neg (by omega)]
      rw [hs]
      generalize (if i < j then 1 else 0) = q at ih ⊢
      by_cases hc : rd l (j : Int) < rd l (i : Int) ∨ (rd l (j : Int) = rd l (i : Int) ∧ j < i)
      · have hc' : rd l (j : Int) < rd l (i' : Int) ∨ (rd l (j : Int) = rd l (i' : Int) ∧ j < i') := by omega
        rw [if_pos hc, if_pos hc']; omega
      · rw [if_neg hc]; split <;> omega
theorem places_length (l : List Int) : (places l).length = l.length := by simp [places]
theorem places_get (l : List Int) (i : Nat) (h : i < l.length) : rd (places l) (i : Int) = placeOf l i := by
  rw [rd_eq _ i (by rw [places_length]; exact h)]
  simp [places]
theorem placeOf_bd (l : List Int) (i : Nat) (h : i < l.length) : 1 ≤ placeOf l i ∧ placeOf l i ≤ (l.length : Int) := by
  have := placeTo_le l i l.length
  rw [if_pos h] at this
  unfold placeOf; omega
theorem mem_rd {l : List Int} {x : Int} (h : x ∈ l) : ∃ i, i < l.length ∧ rd l (i : Int) = x := by
  obtain ⟨i, hi, he⟩ := List.getElem_of_mem h
  exact ⟨i, hi, by rw [rd_eq l i hi]; exact he⟩
theorem ext_rd {a b : List Int} (hl : a.length = b.length) (h : ∀ i, i < a.length → rd a (i : Int) = rd b (i : Int)) : a = b := by
  apply List.ext_getElem hl
  intro i h1 h2
  rw [← rd_eq a i h1, ← rd_eq b i h2]
  exact h i h1
theorem nodup_rd {l : List Int} (h : ∀ i j, i < j → j < l.length → rd l (i : Int) ≠ rd l (j : Int)) : l.Nodup := by
  rw [List.nodup_iff_pairwise_ne, List.pairwise_iff_getElem]
  intro i j hi hj hij
  rw [← rd_eq l i hi, ← rd_eq l j hj]
  exact h i j hij hj
theorem rd_nodup {l : List Int} (h : l.Nodup) (i j : Nat) (hij : i < j) (hj : j < l.length) : rd l (i : Int) ≠ rd l (j : Int) := by
  rw [List.nodup_iff_pairwise_ne, List.pairwise_iff_getElem] at h
  rw [rd_eq l i (by omega), rd_eq l j hj]
  exact h i j (by omega) hj hij
theorem placeTo_nodup {l : List Int} (hd : l.Nodup) (i : Nat) (hi : i < l.length) : ∀ j, j ≤ l.length → placeTo l i j = (l.take j).countP (fun x => decide (x < rd l (i : Int))) := by
  intro j
  induction j with
  | zero => intro _; simp [placeTo]
  | succ j ih =>
    intro hj
    rw [placeTo, ih (by omega), take_rd l j (by omega), List.countP_append]
    congr 1
    by_cases hc : rd l (j : Int) < rd l (i : Int)
    · rw [if_pos (.inl hc)]; simp [hc]
    · rw [if_neg]
      · simp [hc]
      · rintro (h | ⟨h, hlt⟩)
        · exact hc h
        · exact rd_nodup hd j i hlt hi h
/-- A list whose numbers are 1 and more is the list of its places just where each number from 1 to its length occurs. -/
theorem places_iff {l : List Int} (hp : ∀ x ∈ l, 1 ≤ x) : places l = l ↔ ∀ v : Nat, 1 ≤ v → v ≤ l.length → (v : Int) ∈ l := by
  rw [once_iff hp]
  constructor
  · intro h
    have hg : ∀ i, i < l.length → rd l (i : Int) = placeOf l i := fun i hi => by rw [← places_get l i hi, h]
    refine ⟨nodup_rd (fun i j hij hj he => ?_), fun x hx => ?_⟩
    · have := placeTo_lt (l := l) (i := i) (i' := j) (.inr ⟨he, hij⟩) l.length
      rw [if_pos (by omega)] at this
      rw [hg i (by omega), hg j hj] at he
      unfold placeOf at he; omega
    · obtain ⟨i, hi, rfl⟩ := mem_rd hx
      rw [hg i hi]
      exact (placeOf_bd l i hi).2
  · rintro ⟨hd, hle⟩
    have hall := (once_iff hp).2 ⟨hd, hle⟩
    refine ext_rd (places_length l) (fun i hi => ?_)
    rw [places_length] at hi
    rw [places_get l i hi]
    have hm := rd_mem l i hi
    have h1 := hp _ hm
    have h2 := hle _ hm
    unfold placeOf
    rw [placeTo_nodup hd i hi l.length (Nat.le_refl _), List.take_length]
    obtain ⟨v, hv⟩ : ∃ v : Nat, rd l (i : Int) = ((v + 1 : Nat) : Int) := ⟨(rd l (i : Int) - 1).toNat, by omega⟩
    rw [hv]
    have e : l.countP (fun x => decide (x < ((v + 1 : Nat) : Int))) = sumCount l v := by
      rw [sumCount_eq]
      apply List.countP_congr
      intro x hx
      have := hp x hx
      simp; omega
    have h3 : sumCount l v = v := by
      have a := sumCount_le hd v
      have b := sumCount_ge (l := l) v (fun u a b => hall u a (by omega))
      omega
    rw [e, h3]; omega
end Go.Proofs.Ytekjnjejgefbhaa.Q

set_option linter.unusedVariables false
set_option linter.unusedSimpArgs false
namespace Go.Proofs.Ytekjnjejgefbhaa.Q
open Go.RowKit Go.Proofs.Ytekjnjejgefbhaa.F Go.Proofs.YtekjnjejgefbhaaW.PrintWords Go.Proofs.YtekjnjejgefbhaaW.PrintLast Go.Proofs.YtekjnjejgefbhaaW.PrintMore
theorem rows_nat (l : List (List Int)) (i : Nat) : rd_L1 l (i : Int) = l.getD i [] := by unfold rd_L1; simp
theorem rows_eq (l : List (List Int)) (i : Nat) (h : i < l.length) : rd_L1 l (i : Int) = l[i] := by rw [rows_nat]; simp [h]
theorem drop_rows (l : List (List Int)) (i : Nat) (h : i < l.length) : l.drop i = rd_L1 l (i : Int) :: l.drop (i + 1) := by
  rw [rows_eq l i h]; exact List.drop_eq_getElem_cons h
theorem take_rows (l : List (List Int)) (i : Nat) (h : i < l.length) : l.take (i + 1) = l.take i ++ [rd_L1 l (i : Int)] := by
  rw [rows_eq l i h]; exact List.take_succ_eq_append_getElem h
theorem rows_mem (l : List (List Int)) (i : Nat) (h : i < l.length) : rd_L1 l (i : Int) ∈ l := by rw [rows_eq l i h]; exact List.getElem_mem h
def isum : List Int → Int
  | [] => 0
  | x :: l => x + isum l
def msum : List (List Int) → Int
  | [] => 0
  | r :: m => isum r + msum m
/-- how many numbers a list of lists holds -/
def bulk : List (List Int) → Nat
  | [] => 0
  | r :: m => r.length + bulk m
theorem isum_nonneg {l : List Int} (h : ∀ x ∈ l, 0 ≤ x) : 0 ≤ isum l := by
  induction l with
  | nil => exact Int.le_refl _
  | cons x l ih =>
    have h1 := h x (by simp)
    have h2 := ih (fun y hy => h y (by simp [hy]))
    unfold isum; omega
theorem isum_le {l : List Int} {b : Nat} (h : ∀ x ∈ l, x ≤ (b : Int)) : isum l ≤ ((b * l.length : Nat) : Int) := by
  induction l with
  | nil => simp [isum]
  | cons x l ih =>
    have h1 := h x (by simp)
    have h2 := ih (fun y hy => h y (by simp [hy]))
    unfold isum
    rw [List.length_cons, Nat.mul_add]
    omega
theorem isum_append (a b : List Int) : isum (a ++ b) = isum a + isum b := by
  induction a with
  | nil => simp [isum]
  | cons x l ih => simp [isum, ih]; omega
theorem msum_nonneg {m : List (List Int)} (h : ∀ r ∈ m, ∀ x ∈ r, 0 ≤ x) : 0 ≤ msum m := by
  induction m with
  | nil => exact Int.le_refl _
  | cons r m ih =>
    have h1 := isum_nonneg (h r (by simp))
    have h2 := ih (fun y hy => h y (by simp [hy]))
    unfold msum; omega
theorem bulk_mem {m : List (List Int)} {r : List Int} (h : r ∈ m) : r.length ≤ bulk m := by
  induction m with
  | nil => simp at h
  | cons q m ih =>
    unfold bulk
    rcases List.mem_cons.1 h with rfl | h
    · omega
    · have := ih h; omega
end Go.Proofs.Ytekjnjejgefbhaa.Q

set_option linter.unusedVariables false
set_option linter.unusedSimpArgs false
namespace Go.Proofs.Ytekjnjejgefbhaa.Q
open Go.RowKit Go.Proofs.Ytekjnjejgefbhaa.F Go.Proofs.YtekjnjejgefbhaaW.PrintWords Go.Proofs.YtekjnjejgefbhaaW.PrintLast Go.Proofs.YtekjnjejgefbhaaW.PrintMore
theorem szIntS_eq (l : List Int) (left : Int) (h0 : 0 ≤ left) (h1 : left ≤ 1048576) (hm : l.length ≤ maxLen) : laws_szIntS.f l left = some (if left - l.length < 0 then -1 else left - l.length) := by
  unfold maxLen at hm
  unfold laws_szIntS.f
  rw [wrap_id (by omega) (by omega)]
  split <;> rfl
theorem szIntSS_ev (l : List (List Int)) (left : Int) (h0 : 0 ≤ left) (h1 : left ≤ 1048576) (hm : l.length ≤ maxLen) (hr : ∀ r ∈ l, r.length ≤ maxLen) :
    ∃ r, Ev (fun k => laws_szIntSS.f k l left) r ∧ (r < 0 ∨ (0 ≤ r ∧ r = left - (l.length : Int) - (bulk l : Int))) := by
  unfold maxLen at hm
  unfold laws_szIntSS.f
  rw [wrap_id (by omega) (by omega)]
  by_cases hneg : left - (l.length : Int) < 0
  · exact ⟨-1, ev_pos hneg (ev_val rfl), .inl (by omega)⟩
  · have key : ∀ i, i ≤ l.length → ∀ left : Int, 0 ≤ left → left ≤ 1048576 → ∃ r, Ev (fun k => laws_szIntSS.l0 k l left (i : Int)) r ∧ (r < 0 ∨ (0 ≤ r ∧ r = left - (bulk (l.drop i) : Int))) := by
      refine downTo l.length ?_ ?_
      · intro left a b
        refine ⟨left, ?_, .inr ⟨a, by rw [List.drop_length]; simp [bulk]⟩⟩
        refine Ev.step (fun k => by rw [laws_szIntSS.l0]) ?_
        exact ev_neg (by omega) (ev_val rfl)
      · intro i hi ih left a b
        have hrow := hr _ (rows_mem l i hi)
        by_cases hn : left - ((rd_L1 l (i : Int)).length : Int) < 0
        · refine ⟨-1, ?_, .inl (by omega)⟩
          refine Ev.step (fun k => by rw [laws_szIntSS.l0]) ?_
          exact ev_pos (by omega) (ev_pos (by omega) (ev_bindc (szIntS_eq _ _ a b hrow) (ev_pos (by rw [if_pos hn]; omega) (ev_val rfl))))
        · obtain ⟨r, hev, hp⟩ := ih (left - ((rd_L1 l (i : Int)).length : Int)) (by omega) (by omega)
          refine ⟨r, ?_, ?_⟩
          · refine Ev.step (fun k => by rw [laws_szIntSS.l0]) ?_
            refine ev_pos (by omega) (ev_pos (by omega) (ev_bindc (szIntS_eq _ _ a b hrow) (ev_neg (by rw [if_neg hn]; omega) ?_)))
            rw [if_neg hn, wrap_succ (by omega)]
            exact hev
          · rw [drop_rows l i hi]
            unfold bulk
            omega
    obtain ⟨r, hev, hp⟩ := key 0 (by omega) (left - (l.length : Int)) (by omega) (by omega)
    rw [List.drop_zero] at hp
    exact ⟨r, ev_neg hneg hev, hp⟩
theorem toIntSS_ev (l : List (List Int)) (hl : l.length ≤ 1048576) (hr : ∀ r ∈ l, r.length ≤ 1048576) : Ev (fun k => laws_toIntSS.f k l) l := by
  unfold laws_toIntSS.f
  refine ev_pos (by omega) (ev_pos (by simp; omega) ?_)
  have key : ∀ (d i : Nat), i + d = l.length → Ev (fun k => laws_toIntSS.l0 k l (l.take i ++ List.replicate d []) (i : Int)) l := by
    intro d
    induction d with
    | zero =>
      intro i h
      refine Ev.step (fun k => by rw [laws_toIntSS.l0]) ?_
      refine ev_neg (by omega) (ev_val ?_)
      simp [List.take_of_length_le (show l.length ≤ i by omega)]
    | succ d ih =>
      intro i h
      have hi : i < l.length := by omega
      refine Ev.step (fun k => by rw [laws_toIntSS.l0]) ?_
      refine ev_pos (by omega) (ev_pos (by omega) (Ev.bind (toIntS_ev _ (hr _ (rows_mem l i hi))) (ev_pos (by simp; omega) ?_)))
      have e : (l.take i ++ List.replicate (d + 1) []).set (i : Int).toNat (rd_L1 l (i : Int)) = l.take (i + 1) ++ List.replicate d [] := by
        rw [take_rows l i hi, List.set_append_right _ _ (by simp; omega)]
        simp [List.replicate_succ, Nat.min_eq_left (Nat.le_of_lt hi)]
      rw [e, wrap_succ (by omega)]
      exact ih (i + 1) (by omega)
  have := key l.length 0 (by omega)
  simpa using this
theorem eqIntSS_ev (a b : List (List Int)) (hl : a.length ≤ 1152921504606846976) (hr : ∀ r ∈ a, r.length ≤ 1152921504606846976) : Ev (fun k => laws_eqIntSS.f k a b) (decide (a = b)) := by
  unfold laws_eqIntSS.f
  refine ev_ite (fun h => ?_) (fun h => ev_val ?_)
  · have := downTo (P := fun i => Ev (fun k => laws_eqIntSS.l0 k a b (i : Int)) (decide (a.drop i = b.drop i))) a.length ?_ ?_ 0 (by omega)
    · simpa using this
    · refine Ev.step (fun k => by rw [laws_eqIntSS.l0]) ?_
      refine ev_neg (by omega) (ev_val ?_)
      rw [List.drop_of_length_le (by omega), List.drop_of_length_le (by omega)]
      simp
    · intro i hi ih
      refine Ev.step (fun k => by rw [laws_eqIntSS.l0]) ?_
      refine ev_pos (by omega) (ev_pos (by omega) (ev_pos (by omega) (Ev.bind (eqIntS_ev _ _ (hr _ (rows_mem a i hi))) (ev_ite (fun he => ?_) (fun he => ev_val ?_)))))
      · rw [wrap_succ (by omega)]
        refine ev_eq ih ?_
        rw [decide_eq_true_eq] at he
        rw [drop_rows a i (by omega), drop_rows b i (by omega), he]
        simp
      · rw [decide_eq_true_eq] at he
        rw [drop_rows a i (by omega), drop_rows b i (by omega)]
        simp [he]
  · have : a ≠ b := fun e => h (by rw [e])
    simp [this]
theorem eqIntSS_same (a : List (List Int)) (hl : a.length ≤ 1048576) (hr : ∀ r ∈ a, r.length ≤ 1048576) : Ev (fun k => laws_eqIntSS.f k a a) true := ev_eq (eqIntSS_ev a a (by omega) (fun r h => by have := hr r h; omega)) (by simp)
end Go.Proofs.Ytekjnjejgefbhaa.Q

set_option linter.unusedVariables false
set_option linter.unusedSimpArgs false
namespace Go.Proofs.Ytekjnjejgefbhaa.Q
open Go.RowKit Go.Proofs.Ytekjnjejgefbhaa.F Go.Proofs.YtekjnjejgefbhaaW.PrintWords Go.Proofs.YtekjnjejgefbhaaW.PrintLast Go.Proofs.YtekjnjejgefbhaaW.PrintMore
/-- m, m + 1 and so on, n of them -/
def marks (m n : Nat) : List Int := (List.range n).map (fun i => ((m + i : Nat) : Int))
theorem marks_length (m n : Nat) : (marks m n).length = n := by simp [marks]
theorem marks_succ (m n : Nat) : marks m (n + 1) = marks m n ++ [((m + n : Nat) : Int)] := by simp [marks, List.range_succ]
theorem marks_rd (m n i : Nat) (h : i < n) : rd (marks m n) (i : Int) = ((m + i : Nat) : Int) := by
  rw [rd_eq _ i (by rw [marks_length]; exact h)]; simp [marks]
theorem markIntS_ev (l : List Int) (m : Nat) (hl : l.length ≤ 1152921504606846976) (hm : m ≤ 2305843009213693952) : Ev (fun k => laws_markIntS.f k l (m : Int)) (((m + l.length : Nat) : Int), marks m l.length) := by
  unfold laws_markIntS.f
  refine downTo (P := fun i => Ev (fun k => laws_markIntS.l0 k (marks m i ++ l.drop i) ((m + i : Nat) : Int) (i : Int)) (((m + l.length : Nat) : Int), marks m l.length)) l.length ?_ ?_ 0 (by omega)
  · refine Ev.step (fun k => by rw [laws_markIntS.l0]) ?_
    rw [List.drop_length, List.append_nil]
    exact ev_neg (by rw [marks_length]; omega) (ev_val rfl)
  · intro i hi ih
    refine Ev.step (fun k => by rw [laws_markIntS.l0]) ?_
    refine ev_pos (by simp [marks_length]; omega) (ev_pos (by omega) ?_)
    have e : (marks m i ++ l.drop i).set (i : Int).toNat ((m + i : Nat) : Int) = marks m (i + 1) ++ l.drop (i + 1) := by
      rw [Int.toNat_natCast, List.set_append_right _ _ (by rw [marks_length]; omega), marks_length, Nat.sub_self, drop_rd l i hi, marks_succ]
      simp
    rw [e, wrap_succ (by omega), wrap_succ (by omega)]
    exact ih
theorem heldIntS_ev (m n : Nat) (hl : n ≤ 1152921504606846976) (hm : m ≤ 2305843009213693952) : Ev (fun k => laws_heldIntS.f k (marks m n) (m : Int)) ((m + n : Nat) : Int) := by
  unfold laws_heldIntS.f
  refine downTo (P := fun i => Ev (fun k => laws_heldIntS.l0 k (marks m n) ((m + i : Nat) : Int) (i : Int)) ((m + n : Nat) : Int)) n ?_ ?_ 0 (by omega)
  · refine Ev.step (fun k => by rw [laws_heldIntS.l0]) ?_
    exact ev_neg (by rw [marks_length]; omega) (ev_val rfl)
  · intro i hi ih
    refine Ev.step (fun k => by rw [laws_heldIntS.l0]) ?_
    refine ev_pos (by rw [marks_length]; omega) (ev_pos (by omega) (ev_pos (marks_rd m n i hi) ?_))
    rw [wrap_succ (by omega), wrap_succ (by omega)]
    exact ih
end Go.Proofs.Ytekjnjejgefbhaa.Q

set_option linter.unusedVariables false
set_option linter.unusedSimpArgs false
namespace Go.Proofs.Ytekjnjejgefbhaa.Q
open Go.RowKit Go.Proofs.Ytekjnjejgefbhaa.F Go.Proofs.YtekjnjejgefbhaaW.PrintWords Go.Proofs.YtekjnjejgefbhaaW.PrintLast Go.Proofs.YtekjnjejgefbhaaW.PrintMore
/-- m, m + 1 and so on, over the rows -/
def rowMarks (m : Nat) : List (List Int) → List (List Int)
  | [] => []
  | r :: l => marks m r.length :: rowMarks (m + r.length) l
theorem rowMarks_length (l : List (List Int)) (m : Nat) : (rowMarks m l).length = l.length := by
  induction l generalizing m with
  | nil => rfl
  | cons r l ih => simp [rowMarks, ih]
theorem bulk_append (a b : List (List Int)) : bulk (a ++ b) = bulk a + bulk b := by
  induction a with
  | nil => simp [bulk]
  | cons r l ih => simp only [List.cons_append, bulk, ih]; omega
theorem rowMarks_append (a b : List (List Int)) (m : Nat) : rowMarks m (a ++ b) = rowMarks m a ++ rowMarks (m + bulk a) b := by
  induction a generalizing m with
  | nil => simp [rowMarks, bulk]
  | cons r l ih => simp only [List.cons_append, rowMarks, bulk, ih, Nat.add_assoc]
theorem bulk_rowMarks (l : List (List Int)) (m : Nat) : bulk (rowMarks m l) = bulk l := by
  induction l generalizing m with
  | nil => rfl
  | cons r l ih => simp [rowMarks, bulk, ih, marks_length]
theorem rowMarks_step (l : List (List Int)) (m i : Nat) (h : i < l.length) :
    (rowMarks m (l.take i) ++ l.drop i).set i (marks (m + bulk (l.take i)) (l.getD i []).length) = rowMarks m (l.take (i + 1)) ++ l.drop (i + 1) := by
  have e : l.getD i [] = l[i] := by rw [List.getD_eq_getElem?_getD, List.getElem?_eq_getElem h]; rfl
  rw [e, List.take_succ_eq_append_getElem h, rowMarks_append, List.set_append_right _ _ (by rw [rowMarks_length, List.length_take]; omega), rowMarks_length, List.length_take, Nat.min_eq_left (Nat.le_of_lt h), Nat.sub_self]
  simp only [rowMarks, List.append_assoc, List.cons_append, List.nil_append]
  rw [show l.drop i = l[i] :: l.drop (i + 1) from List.drop_eq_getElem_cons h]
  rfl
set_option maxHeartbeats 4000000 in
set_option maxRecDepth 100000 in
theorem markIntSS_calls (P : Nat → Prop) (u : Value) (l : List (List Int)) (m : Nat) (w0 w : World) (hB : Below w0.heap.size w0 w) (hS : Kd.S (Kd.slice 3 (Kd.int .i64)) 22 w w0.heap.size P u l)
    (hb : bulk l ≤ 1152921504606846976) (hm : m ≤ 1152921504606846976) (hl : l.length ≤ 1152921504606846976) :
    Calls Try.prog 31 #[u, .int .i64 (m : Int)] w fun e w' => e = .returned (.int .i64 ((m + bulk l : Nat) : Int)) ∧ Kd.S (Kd.slice 3 (Kd.int .i64)) 22 w' w0.heap.size P u (rowMarks m l) ∧ Below w0.heap.size w0 w' ∧ Kept w w' P := by
  have HS := Aside0.mk hS
  have HB := Aside0.mk hB
  obtain ⟨A, c, hu⟩ := Kd.R_slice (Kd.S_R hS)
  subst hu
  clear hS hB
  go_enter Try.func31, Try.ntmps31
  go_wp2
  go_loopg [1, 5] l.length (fun kq v1 v5 wr => ∃ i j : Nat, i ≤ l.length ∧ l.length - i ≤ kq ∧ Aside0 (j = m + bulk (l.take i)) ∧ v1 = .int .i64 (j : Int) ∧ v5 = .int .i64 i ∧ Aside0 (Kd.S (Kd.slice 3 (Kd.int .i64)) 22 wr w0.heap.size P (.slice A l.length c) (rowMarks m (l.take i) ++ l.drop i)) ∧ Aside0 (Below w0.heap.size w0 wr) ∧ Aside0 (Kept w wr P))
  case atStart => exact ⟨0, m, Nat.zero_le _, by omega, ⟨by simp [bulk]⟩, rfl, rfl, HS, HB, ⟨Kept.refl _ _⟩⟩
  case round =>
    clear HS HB
    obtain ⟨i, j, hi, hg, HJ, rfl, rfl, HS, HB, HK⟩ := hrel
    by_cases hlt : i < l.length
    · have hltz : (i : Int) < (l.length : Int) := by omega
      have hx : (rowMarks m (l.take i) ++ l.drop i).getD (i : Int).toNat [] = l.getD i [] := by
        rw [Int.toNat_natCast, List.getD_eq_getElem?_getD, List.getElem?_append_right (by rw [rowMarks_length, List.length_take]; omega), rowMarks_length, List.length_take, Nat.min_eq_left hi, Nat.sub_self, List.getElem?_drop, Nat.add_zero, List.getD_eq_getElem?_getD]
      obtain ⟨g, cc, e0⟩ : ∃ g cc, (Value.slice A l.length c) = .slice (some ⟨g, 0, none⟩) l.length cc := by
        obtain ⟨g, cc, e0, _⟩ := Kd.R_form (Kd.S_R HS.out) (by simp [rowMarks_length]; omega)
        injection e0 with ea el ec
        exact ⟨g, c, by rw [ea]⟩
      injection e0 with ea _ ec
      subst ea ec
      obtain ⟨oki, cs, hcl, hM, hcc, hfr, hoki, hH⟩ := Kd.S_elem HS.out [] (i : Int) (by omega) (by omega)
      rw [hx] at hM
      obtain ⟨v, rfl, hR⟩ := hM
      obtain ⟨A1, c1, e1⟩ := Kd.R_slice hR
      subst e1
      have hx1 := hcc 0 _ rfl
      rw [show (i : Int).toNat * (Kd.slice 3 (Kd.int .i64)).sz + 0 = i from by show (i : Int).toNat * 1 + 0 = i; omega] at hx1
      have hlb : (l.getD i []).length + bulk (l.take i) ≤ bulk l := by
        have e : l.getD i [] = l[i] := by rw [List.getD_eq_getElem?_getD, List.getElem?_eq_getElem hlt]; rfl
        have h1 := bulk_append (l.take (i + 1)) (l.drop (i + 1))
        rw [List.take_append_drop, List.take_succ_eq_append_getElem hlt, bulk_append] at h1
        rw [e]
        simp only [bulk] at h1
        omega
      have hj := HJ.out
      obtain ⟨K, hK⟩ := markIntS_ev (l.getD i []) j (by omega) (by omega)
      have hst := rowMarks_step l m i hlt
      rw [← hj] at hst
      have hjj : j + (l.getD i []).length = m + bulk (l.take (i + 1)) := by
        have e : l.getD i [] = l[i] := by rw [List.getD_eq_getElem?_getD, List.getElem?_eq_getElem hlt]; rfl
        rw [List.take_succ_eq_append_getElem hlt, bulk_append, e, hj]
        simp only [bulk]
        omega
      have J1 := Aside0.mk hjj
      have ST := Aside0.mk hst
      have HK1 := Aside0.mk (hK K (Nat.le_refl _))
      have HR := Aside0.mk hR
      have HO := Aside0.mk hoki
      have HH := Aside0.mk hH
      clear hst hK hR hoki hH hjj hj hx hcl hcc hfr HJ
      generalize l.getD i [] = r at hx1 HR HK1 ST J1 HH hlb
      go_wp2_with (go_at_call 16; (with_reducible refine (laws_markIntS.calls K oki _ r (j : Int) _ _ w0 _ HB.out HR.out HK1.out).mono ?_); rintro e w6 ⟨rfl, hr6, hb6, hk6⟩; have R6 := Aside0.mk hr6; have B6 := Aside0.mk hb6; have K6 := Aside0.mk hk6; clear hr6 hb6 hk6)
      go_roundg (l.length - (i + 1))
      case measure => omega
      case rel =>
        refine ⟨i + 1, j + r.length, by omega, by omega, J1, rfl, by go_num, ⟨?_⟩, B6, ⟨HK.out.then_ K6.out (fun k hk => .inl (HO.out k hk).1)⟩⟩
        rw [← ST.out]
        have h1 := Kd.H_back (Kd.H_step HH.out (fun k _ hn hlt => K6.out.2 k hlt hn)) (x' := marks j r.length) (okp := oki) ⟨_, rfl, Kd.R_mono (Kd.R_tight rfl R6.out) (fun k hk => HR.out.1 k hk.symm)⟩ (fun _ h => h)
        rwa [Int.toNat_natCast] at h1
    · have : i = l.length := by omega
      subst this
      have hltz : ¬ (l.length : Int) < (l.length : Int) := by omega
      replace HS := Aside0.mk (show Kd.S _ _ _ _ _ _ (rowMarks m l) by have := HS.out; rwa [List.take_length, List.drop_length, List.append_nil] at this)
      go_wp2
      go_ret
      exact ⟨by have := HJ.out; rw [List.take_length] at this; rw [this]; rfl, HS.out, HB.out, HK.out⟩
end Go.Proofs.Ytekjnjejgefbhaa.Q

set_option linter.unusedVariables false
set_option linter.unusedSimpArgs false
namespace Go.Proofs.Ytekjnjejgefbhaa.Q
open Go.RowKit Go.Proofs.Ytekjnjejgefbhaa.F Go.Proofs.YtekjnjejgefbhaaW.PrintWords Go.Proofs.YtekjnjejgefbhaaW.PrintLast Go.Proofs.YtekjnjejgefbhaaW.PrintMore
section
variable {w W : World} {L L' : List Ob} {ok ok' : Nat → Prop} {v v' : Value} {xs ys : List Int}
theorem toIntS_st (h : St w W L) (hr : Reads (Kd.int .i64) W v xs) (hl : xs.length ≤ 1048576) :
    Calls Try.prog 13 #[v] W fun e W' => ∃ v1 ok1, e = .returned v1 ∧ St w W' (obR (Kd.int .i64) 3 w ok1 v1 xs :: L) := by
  obtain ⟨A, c, rfl, hc, hC⟩ := hr
  obtain ⟨K, hK⟩ := toIntS_ev xs hl
  refine (laws_toIntS.calls K A c xs xs W hC hc (hK K (Nat.le_refl _))).mono ?_
  rintro e W' ⟨v1, rfl, hR, hB⟩
  obtain ⟨ok1, h1⟩ := h.addR hB hR
  exact ⟨v1, ok1, rfl, h1⟩
theorem eqIntS_st (h : St w W L) (hr : Reads (Kd.int .i64) W v xs) (hr' : Reads (Kd.int .i64) W v' ys) (hl : xs.length ≤ 1152921504606846976) :
    Calls Try.prog 15 #[v, v'] W fun e W' => e = .returned (.bool (decide (xs = ys))) ∧ St w W' L := by
  obtain ⟨A, c, rfl, hc, hC⟩ := hr
  obtain ⟨A', c', rfl, hc', hC'⟩ := hr'
  obtain ⟨K, hK⟩ := eqIntS_ev xs ys hl
  refine (laws_eqIntS.calls K A c xs A' c' ys _ W hC hc hC' hc' (hK K (Nat.le_refl _))).mono ?_
  rintro e W' ⟨rfl, hd⟩
  exact ⟨rfl, h.drawn hd⟩
theorem eqIntS_st_same (h : St w W L) (hr : Reads (Kd.int .i64) W v xs) (hr' : Reads (Kd.int .i64) W v' xs) (hl : xs.length ≤ 1152921504606846976) :
    Calls Try.prog 15 #[v, v'] W fun e W' => e = .returned (.bool true) ∧ St w W' L := by
  refine (eqIntS_st h hr hr' hl).mono ?_
  rintro e W' ⟨rfl, hd⟩
  exact ⟨by simp, hd⟩
theorem markIntS_st (h : St w W L) (i : Nat) (hi : L[i]? = some (obR (Kd.int .i64) 3 w ok v xs)) (m : Nat) (hm : m ≤ 2305843009213693952) (hl : xs.length ≤ 1152921504606846976) (hL : L.set i (obR (Kd.int .i64) 3 w ok v (marks m xs.length)) = L') :
    Calls Try.prog 16 #[v, .int .i64 (m : Int)] W fun e W' => e = .returned (.int .i64 ((m + xs.length : Nat) : Int)) ∧ St w W' L' := by
  obtain ⟨K, hK⟩ := markIntS_ev xs m hl hm
  have hR : Kd.R (Kd.int .i64) 3 W w.heap.size ok v xs := h.get i hi
  refine (laws_markIntS.calls K ok v xs (m : Int) _ _ w W h.below hR (hK K (Nat.le_refl _))).mono ?_
  rintro e W' ⟨rfl, hr, hb, hk⟩
  exact ⟨rfl, h.mark (o' := obR (Kd.int .i64) 3 w ok v (marks m xs.length)) i hi rfl firmR hb hk (Kd.R_mono (Kd.R_tight rfl hr) (fun k hk => hR.1 k hk.symm)) hL⟩
theorem heldIntS_st (h : St w W L) (n : Nat) (m : Nat) (hr : Reads (Kd.int .i64) W v (marks m n)) (hm : m ≤ 2305843009213693952) (hl : n ≤ 1152921504606846976) :
    Calls Try.prog 17 #[v, .int .i64 (m : Int)] W fun e W' => e = .returned (.int .i64 ((m + n : Nat) : Int)) ∧ St w W' L := by
  obtain ⟨A, c, rfl, hc, hC⟩ := hr
  obtain ⟨K, hK⟩ := heldIntS_ev m n hl hm
  refine (laws_heldIntS.calls K A c _ (m : Int) _ W hC hc (hK K (Nat.le_refl _))).mono ?_
  rintro e W' ⟨rfl, hd⟩
  exact ⟨rfl, h.drawn hd⟩
end
end Go.Proofs.Ytekjnjejgefbhaa.Q

set_option linter.unusedVariables false
set_option linter.unusedSimpArgs false
namespace Go.Proofs.Ytekjnjejgefbhaa.Q
open Go.RowKit Go.Proofs.Ytekjnjejgefbhaa.F Go.Proofs.YtekjnjejgefbhaaW.PrintWords Go.Proofs.YtekjnjejgefbhaaW.PrintLast Go.Proofs.YtekjnjejgefbhaaW.PrintMore
section
variable {w W : World} {L L' : List Ob} {ok ok' : Nat → Prop} {v v' : Value} {xs ys : List (List Int)}
theorem toIntSS_st (h : St w W L) (hr : Reads (Kd.slice 3 (Kd.int .i64)) W v xs) (hl : xs.length ≤ 1048576) (hb : ∀ r ∈ xs, r.length ≤ 1048576) :
    Calls Try.prog 20 #[v] W fun e W' => ∃ v1 ok1, e = .returned v1 ∧ St w W' (obS (Kd.slice 3 (Kd.int .i64)) 22 w ok1 v1 xs :: L) := by
  obtain ⟨A, c, rfl, hc, hC⟩ := hr
  obtain ⟨K, hK⟩ := toIntSS_ev xs hl hb
  refine (laws_toIntSS.calls K A c xs xs W hC hc (hK K (Nat.le_refl _))).mono ?_
  rintro e W' ⟨v1, rfl, hR, hB⟩
  obtain ⟨ok1, h1⟩ := h.addS hB hR
  exact ⟨v1, ok1, rfl, h1⟩
theorem eqIntSS_st_same (h : St w W L) (hr : Reads (Kd.slice 3 (Kd.int .i64)) W v xs) (hr' : Reads (Kd.slice 3 (Kd.int .i64)) W v' xs) (hl : xs.length ≤ 1152921504606846976) (hb : ∀ r ∈ xs, r.length ≤ 1152921504606846976) :
    Calls Try.prog 22 #[v, v'] W fun e W' => e = .returned (.bool true) ∧ St w W' L := by
  obtain ⟨A, c, rfl, hc, hC⟩ := hr
  obtain ⟨A', c', rfl, hc', hC'⟩ := hr'
  obtain ⟨K, hK⟩ := eqIntSS_ev xs xs hl hb
  refine (laws_eqIntSS.calls K A c xs A' c' xs _ W hC hc hC' hc' (hK K (Nat.le_refl _))).mono ?_
  rintro e W' ⟨rfl, hd⟩
  exact ⟨by simp, h.drawn hd⟩
theorem markIntSS_st (h : St w W L) (i : Nat) (hi : L[i]? = some (obS (Kd.slice 3 (Kd.int .i64)) 22 w ok v xs)) (m : Nat) (hm : m ≤ 1152921504606846976) (hl : xs.length ≤ 1152921504606846976) (hb : bulk xs ≤ 1152921504606846976)
    (hL : L.set i (obS (Kd.slice 3 (Kd.int .i64)) 22 w ok v (rowMarks m xs)) = L') :
    Calls Try.prog 31 #[v, .int .i64 (m : Int)] W fun e W' => e = .returned (.int .i64 ((m + bulk xs : Nat) : Int)) ∧ St w W' L' := by
  have hR : Kd.S (Kd.slice 3 (Kd.int .i64)) 22 W w.heap.size ok v xs := h.get i hi
  refine (markIntSS_calls ok v xs m w W h.below hR hb hm hl).mono ?_
  rintro e W' ⟨rfl, hr, hb, hk⟩
  exact ⟨rfl, h.mark (o' := obS (Kd.slice 3 (Kd.int .i64)) 22 w ok v (rowMarks m xs)) i hi rfl firmS hb hk hr hL⟩
theorem heldIntSS_ev (l : List (List Int)) (m : Nat) (hl : l.length ≤ 1152921504606846976) (hb : bulk l ≤ 1152921504606846976) (hm : m ≤ 1152921504606846976) : Ev (fun k => laws_heldIntSS.f k (rowMarks m l) (m : Int)) ((m + bulk l : Nat) : Int) := by
  unfold laws_heldIntSS.f
  have key : ∀ (a b : List (List Int)), a ++ b = l → Ev (fun k => laws_heldIntSS.l0 k (rowMarks m l) ((m + bulk a : Nat) : Int) (a.length : Int)) ((m + bulk l : Nat) : Int) := by
    intro a b hab
    induction b generalizing a with
    | nil =>
      rw [List.append_nil] at hab
      subst hab
      refine Ev.step (fun k => by rw [laws_heldIntSS.l0]) ?_
      exact ev_neg (by rw [rowMarks_length]; omega) (ev_val rfl)
    | cons r b ih =>
      have hlen : a.length < l.length := by rw [← hab]; simp
      have hbl : bulk a + r.length ≤ bulk l := by rw [← hab, bulk_append]; simp only [bulk]; omega
      have hrow : rd_L1 (rowMarks m l) (a.length : Int) = marks (m + bulk a) r.length := by
        rw [rows_nat, ← hab, rowMarks_append, List.getD_eq_getElem?_getD, List.getElem?_append_right (by rw [rowMarks_length]; exact Nat.le_refl _), rowMarks_length, Nat.sub_self]
        rfl
      have := ih (a ++ [r]) (by rw [← hab]; simp)
      rw [bulk_append, List.length_append] at this
      simp only [bulk, List.length_cons, List.length_nil, Nat.add_zero, Nat.zero_add] at this
      refine Ev.step (fun k => by rw [laws_heldIntSS.l0]) ?_
      refine ev_pos (by rw [rowMarks_length]; omega) (ev_pos (by omega) ?_)
      rw [hrow]
      refine Ev.bind (heldIntS_ev (m + bulk a) r.length (by omega) (by omega)) (ev_neg (by omega) ?_)
      rw [wrap_succ (by omega), Nat.add_assoc]
      exact this
  have := key [] l rfl
  simpa [bulk] using this
theorem heldIntSS_st (h : St w W L) (xs : List (List Int)) (m : Nat) (hr : Reads (Kd.slice 3 (Kd.int .i64)) W v (rowMarks m xs)) (hm : m ≤ 1152921504606846976) (hl : xs.length ≤ 1152921504606846976) (hb : bulk xs ≤ 1152921504606846976) :
    Calls Try.prog 32 #[v, .int .i64 (m : Int)] W fun e W' => e = .returned (.int .i64 ((m + bulk xs : Nat) : Int)) ∧ St w W' L := by
  obtain ⟨A, c, rfl, hc, hC⟩ := hr
  obtain ⟨K, hK⟩ := heldIntSS_ev xs m hl hb hm
  refine (laws_heldIntSS.calls K A c _ (m : Int) _ W hC hc (hK K (Nat.le_refl _))).mono ?_
  rintro e W' ⟨rfl, hd⟩
  exact ⟨rfl, h.drawn hd⟩
end
theorem szIntSS_st {w W : World} {L : List Ob} {v : Value} {xs : List (List Int)} {a z : Int} (h : St w W L) (hr : Reads (Kd.slice 3 (Kd.int .i64)) W v xs) (hE : Ev (fun k => laws_szIntSS.f k xs a) z) :
    Calls Try.prog 18 #[v, .int .i64 a] W fun e W' => e = .returned (.int .i64 z) ∧ St w W' L := by
  obtain ⟨A, c, rfl, hc, hC⟩ := hr
  obtain ⟨K, hK⟩ := hE
  refine (laws_szIntSS.calls K A c xs a z W hC hc (hK K (Nat.le_refl _))).mono ?_
  rintro e W' ⟨rfl, hd⟩
  exact ⟨rfl, h.drawn hd⟩
end Go.Proofs.Ytekjnjejgefbhaa.Q

set_option linter.unusedVariables false
set_option linter.unusedSimpArgs false
namespace Go.Proofs.Ytekjnjejgefbhaa.Q
open Go.RowKit Go.Proofs.Ytekjnjejgefbhaa.F Go.Proofs.YtekjnjejgefbhaaW.PrintWords Go.Proofs.YtekjnjejgefbhaaW.PrintLast Go.Proofs.YtekjnjejgefbhaaW.PrintMore
section
variable {w W : World} {L L' : List Ob} {o : Ob} {ok ok' : Nat → Prop} {v0 v1 u0 u1 : Value} {n : List Int} {m : List (List Int)}
theorem St.drop (h : St w W (o :: L)) : St w W L := ⟨h.below, fun p hp => h.own p (List.mem_cons_of_mem _ hp), (List.pairwise_cons.1 h.apart).2⟩
/-- a variable in memory -/
def obB (b : Nat) (cs : Array Value) (t : Nat) : Ob := ⟨fun k => k = b, fun W => W.heap[b]? = some (.cells cs t (0, 0))⟩
theorem firmB {b : Nat} {cs : Array Value} {t : Nat} : Firm (obB b cs t) := fun _ _ h hm => (hm b rfl (blk_lt h)).trans h
theorem St.cellB (h : St w W L) {b t : Nat} {cs : Array Value} (i : Nat) (hi : L[i]? = some (obB b cs t)) (j : Nat) {v : Value} (hv : cs[j]? = some v) : W.cell? ⟨b, j, none⟩ = some v := (blk_cell (show W.heap[b]? = some (.cells cs t (0, 0)) from h.get i hi) j).trans hv
theorem St.box (h : St w W L) (cs : Array Value) (t : Nat) : St w (W.alloc (.cells cs t (0, 0))) (obB W.heap.size cs t :: L) := by
  have e1 : (W.alloc (.cells cs t (0, 0))).heap.size = W.heap.size + 1 := by show (W.heap.push _).size = _; exact Array.size_push ..
  refine h.add (o := obB W.heap.size cs t) (below_alloc (Below.refl _ _) _) (fun k hk => ?_) ?_ firmB
  · have h1 : k = W.heap.size := hk
    omega
  · show (W.heap.push _)[W.heap.size]? = _
    exact Array.getElem?_push_size
theorem eqTableau_st_same (h : St w W L) (h0 : Reads (Kd.int .i64) W v0 n) (h1 : Reads (Kd.slice 3 (Kd.int .i64)) W v1 m) (h2 : Reads (Kd.int .i64) W u0 n) (h3 : Reads (Kd.slice 3 (Kd.int .i64)) W u1 m)
    (hn : n.length ≤ 1152921504606846976) (hm : m.length ≤ 1152921504606846976) (hb : ∀ r ∈ m, r.length ≤ 1152921504606846976) :
    Calls Try.prog 39 #[.agg #[v0, v1], .agg #[u0, u1]] W fun e W' => e = .returned (.bool true) ∧ St w W' L := by
  obtain ⟨A0, c0, rfl, hc0, hC0⟩ := h0
  obtain ⟨A1, c1, rfl, hc1, hC1⟩ := h1
  obtain ⟨A2, c2, rfl, hc2, hC2⟩ := h2
  obtain ⟨A3, c3, rfl, hc3, hC3⟩ := h3
  have hE : Ev (fun k => laws_eqTableau.f k n m n m) true := by
    unfold laws_eqTableau.f
    exact Ev.bind (eqIntS_ev n n hn) (ev_pos (by simp) (Ev.bind (eqIntSS_ev m m hm hb) (ev_pos (by simp) (ev_val rfl))))
  obtain ⟨K, hK⟩ := hE
  refine (laws_eqTableau.calls K A0 c0 n A1 c1 m A2 c2 n A3 c3 m true W hC0 hc0 hC1 hc1 hC2 hc2 hC3 hc3 (hK K (Nat.le_refl _))).mono ?_
  rintro e W' ⟨rfl, hd⟩
  exact ⟨rfl, h.quiet hd⟩
theorem heldTableau_st (h : St w W L) (a : Nat) (m : List (List Int)) (q : Nat) (h0 : Reads (Kd.int .i64) W v0 (marks q a)) (h1 : Reads (Kd.slice 3 (Kd.int .i64)) W v1 (rowMarks (q + a) m))
    (hq : q ≤ 576460752303423488) (hn : a ≤ 576460752303423488) (hm : m.length ≤ 576460752303423488) (hb : bulk m ≤ 576460752303423488) :
    Calls Try.prog 41 #[.agg #[v0, v1], .int .i64 (q : Int)] W fun e W' => e = .returned (.int .i64 ((q + a + bulk m : Nat) : Int)) ∧ St w W' L := by
  obtain ⟨A0, c0, rfl, hc0, hC0⟩ := h0
  obtain ⟨A1, c1, rfl, hc1, hC1⟩ := h1
  have hE : Ev (fun k => laws_heldTableau.f k (marks q a) (rowMarks (q + a) m) (q : Int)) ((q + a + bulk m : Nat) : Int) := by
    unfold laws_heldTableau.f
    exact Ev.bind (heldIntS_ev q a (by omega) (by omega)) (ev_neg (by omega) (Ev.bind (heldIntSS_ev m (q + a) (by omega) (by omega) (by omega)) (ev_neg (by omega) (ev_val rfl))))
  obtain ⟨K, hK⟩ := hE
  refine (laws_heldTableau.calls K A0 c0 _ A1 c1 _ (q : Int) _ W hC0 hc0 hC1 hc1 (hK K (Nat.le_refl _))).mono ?_
  rintro e W' ⟨rfl, hd⟩
  exact ⟨rfl, h.quiet hd⟩
set_option maxHeartbeats 4000000 in
set_option maxRecDepth 100000 in
theorem markTableau_st (h : St w W L) (i j : Nat) (hi : L[i]? = some (obR (Kd.int .i64) 3 w ok v0 n)) (hij : i ≠ j) (hj : L[j]? = some (obS (Kd.slice 3 (Kd.int .i64)) 22 w ok' v1 m)) (q : Nat)
    (hq : q ≤ 576460752303423488) (hn : n.length ≤ 576460752303423488) (hm : m.length ≤ 576460752303423488) (hb : bulk m ≤ 576460752303423488)
    (hL : (L.set i (obR (Kd.int .i64) 3 w ok v0 (marks q n.length))).set j (obS (Kd.slice 3 (Kd.int .i64)) 22 w ok' v1 (rowMarks (q + n.length) m)) = L') :
    Calls Try.prog 40 #[.agg #[v0, v1], .int .i64 (q : Int)] W fun e W' => e = .returned (.int .i64 ((q + n.length + bulk m : Nat) : Int)) ∧ St w W' L' := by
  obtain ⟨A0, c0, rfl, _, _⟩ := h.readR i hi
  obtain ⟨A1, c1, rfl, _, _⟩ := h.readS j hj
  have H0 := Aside0.mk h
  have HI := Aside0.mk hi
  have HJ := Aside0.mk hj
  have HF := Aside0.mk (And.intro hq (And.intro hn (And.intro hm hb)))
  clear h hi hj hq hn hm hb
  go_enter Try.func40, Try.ntmps40
  go_wp2_with (first
    | ((with_reducible refine gate_dst (N := 2) rfl ?_); refine box_event ?hg (N := 2) ?hd (cs := #[.slice A0 n.length c0, .slice A1 m.length c1]) (t := 40) ?hr ?_; (case hd => rfl); (case hg => rfl); (case hr => first | (go_simp; done) | (go_simp; rfl)); intro b hb w1 hx hl; have H1 := Aside0.mk (H0.out.add (o := obB b #[.slice A0 n.length c0, .slice A1 m.length c1] 40) hl (fun k hk => by have h1 : k = b := hk; have h2 := blk_lt hx; omega) hx firmB); have hc0 : w1.cell? ⟨b, 0, none⟩ = some (.slice A0 n.length c0) := (blk_cell hx 0).trans rfl; clear hx hl hb)
    | (go_at_call 16; refine (markIntS_st (L' := obB b #[.slice A0 n.length c0, .slice A1 m.length c1] 40 :: L.set i (obR (Kd.int .i64) 3 w ok (.slice A0 n.length c0) (marks q n.length))) H1.out (i + 1) HI.out q (by have := HF.out; omega) (by have := HF.out; omega) rfl).mono ?_; rintro e w2 ⟨rfl, h_⟩; have H2 := Aside0.mk h_; have hc1 : w2.cell? ⟨b, 1, none⟩ = some (.slice A1 m.length c1) := (blk_cell (show w2.heap[b]? = some (.cells #[.slice A0 n.length c0, .slice A1 m.length c1] 40 (0, 0)) from h_.get 0 rfl) 1).trans rfl; clear h_ H1 hc0)
    | (go_at_call 31; refine (markIntSS_st (L' := obB b #[.slice A0 n.length c0, .slice A1 m.length c1] 40 :: (L.set i (obR (Kd.int .i64) 3 w ok (.slice A0 n.length c0) (marks q n.length))).set j (obS (Kd.slice 3 (Kd.int .i64)) 22 w ok' (.slice A1 m.length c1) (rowMarks (q + n.length) m))) H2.out (j + 1) ((List.getElem?_set_ne hij).trans HJ.out) (q + n.length) (by have := HF.out; omega) (by have := HF.out; omega) (by have := HF.out; omega) rfl).mono ?_; rintro e w3 ⟨rfl, h_⟩; have H3 := Aside0.mk h_; clear h_ H2 hc1))
  go_ret
  exact ⟨rfl, hL ▸ H3.out.drop⟩
end
end Go.Proofs.Ytekjnjejgefbhaa.Q

set_option linter.unusedVariables false
set_option linter.unusedSimpArgs false
namespace Go.Proofs.Ytekjnjejgefbhaa.Q
open Go.RowKit Go.Proofs.Ytekjnjejgefbhaa.F Go.Proofs.YtekjnjejgefbhaaW.PrintWords Go.Proofs.YtekjnjejgefbhaaW.PrintLast Go.Proofs.YtekjnjejgefbhaaW.PrintMore
section
variable {w W w1 : World} {L L' : List Ob} {b t : Nat} {cs cs' : Array Value} {x0 x1 : Value} {o o' o'' : Ob}
theorem St.putB (h : St w W L) (i : Nat) (hi : L[i]? = some (obB b cs t)) (j : Nat) (u : Value) (hc : cs.setIfInBounds j u = cs') : St w (W.setCell ⟨b, j, none⟩ u) (L.set i (obB b cs' t)) := by
  have hb : w.heap.size ≤ b := ((h.own _ (List.mem_of_getElem? hi)).1 b rfl).1
  refine h.mark (o' := obB b cs' t) i hi rfl firmB (below_set h.below hb) ⟨by simp [World.setCell], fun k _ hk => ?_⟩ (blk_put (show W.heap[b]? = some (.cells cs t (0, 0)) from h.get i hi) j u hc) rfl
  have hk' : k ≠ b := hk
  exact Below.heap_setCell _ _ _ _ hk'
theorem St.addB (h : St w W L) {W' : World} (hx : W'.heap[b]? = some (.cells cs t (0, 0))) (hb : b = W.heap.size) (hl : Below W.heap.size W W') : St w W' (obB b cs t :: L) :=
  h.add (o := obB b cs t) hl (fun k hk => by have h1 : k = b := hk; have h2 := blk_lt hx; omega) hx firmB
theorem St.heapB (h : St w W L) (i : Nat) (hi : L[i]? = some (obB b cs t)) : W.heap[b]? = some (.cells cs t (0, 0)) := h.get i hi
theorem St.giveRS {α β : Type} {d : Kd α} {d' : Kd β} {t t' : Nat} {ok0 ok1 : Nat → Prop} {v0 v1 : Value} {xs : List α} {ys : List β} (h : St w W L) (i j : Nat) (hij : i < j) (hi : L[i]? = some (obR d t w ok0 v0 xs)) (hj : L[j]? = some (obS d' t' w ok1 v1 ys)) :
    Kd.R d t W w.heap.size (fun _ => True) v0 xs ∧ Kd.S d' t' W w.heap.size (fun k_ => some k_ ≠ (v0 : Value).ownBlock) v1 ys ∧ Below w.heap.size w W := by
  have hR : Kd.R d t W w.heap.size ok0 v0 xs := h.get i hi
  have hS : Kd.S d' t' W w.heap.size ok1 v1 ys := h.get j hj
  refine ⟨Kd.R_mono hR (fun _ _ => trivial), Kd.S_mono hS (fun k hk e => ?_), h.below⟩
  obtain ⟨hil, hi'⟩ := List.getElem?_eq_some_iff.1 hi
  obtain ⟨hjl, hj'⟩ := List.getElem?_eq_some_iff.1 hj
  have hp := List.pairwise_iff_getElem.1 h.apart i j hil hjl hij k
  rw [hi', hj'] at hp
  exact hp (hR.1 k e.symm) hk
theorem St.giveSR {α β : Type} {d : Kd α} {d' : Kd β} {t t' : Nat} {ok0 ok1 : Nat → Prop} {v0 v1 : Value} {xs : List α} {ys : List β} (h : St w W L) (i j : Nat) (hij : j < i) (hi : L[i]? = some (obR d t w ok0 v0 xs)) (hj : L[j]? = some (obS d' t' w ok1 v1 ys)) :
    Kd.R d t W w.heap.size (fun _ => True) v0 xs ∧ Kd.S d' t' W w.heap.size (fun k_ => some k_ ≠ (v0 : Value).ownBlock) v1 ys ∧ Below w.heap.size w W := by
  have hR : Kd.R d t W w.heap.size ok0 v0 xs := h.get i hi
  have hS : Kd.S d' t' W w.heap.size ok1 v1 ys := h.get j hj
  refine ⟨Kd.R_mono hR (fun _ _ => trivial), Kd.S_mono hS (fun k hk e => ?_), h.below⟩
  obtain ⟨hil, hi'⟩ := List.getElem?_eq_some_iff.1 hi
  obtain ⟨hjl, hj'⟩ := List.getElem?_eq_some_iff.1 hj
  have hp := List.pairwise_iff_getElem.1 h.apart j i hjl hil hij k
  rw [hi', hj'] at hp
  exact hp hk (hR.1 k e.symm)
theorem Reads.C {α : Type} {d : Kd α} {A : Option Addr} {c : Nat} {xs : List α} (h : Reads d W (.slice A xs.length c) xs) : xs.length ≤ c ∧ d.C W A xs.length xs := by
  obtain ⟨A', c', e, h1, h2⟩ := h
  cases e
  exact ⟨h1, h2⟩
/-- a literal of two rows, read -/
theorem rows2_C {A1 A2 : Option Addr} {k1 k2 e : Nat} {y1 y2 : List Int} (h1 : Reads (Kd.int .i64) W (.slice A1 y1.length k1) y1) (h2 : Reads (Kd.int .i64) W (.slice A2 y2.length k2) y2) (hb : W.heap[b]? = some (.cells #[.slice A1 y1.length k1, .slice A2 y2.length k2] t (0, 0))) :
    Reads (Kd.slice e (Kd.int .i64)) W (.slice (some ⟨b, 0, none⟩) 2 2) [y1, y2] := by
  refine ⟨_, _, rfl, Nat.le_refl _, rfl, (show 2 ≤ 9223372036854775807 by decide), fun _ => ⟨_, rfl, fun j p hj => ?_⟩⟩
  match j, hj with
  | 0, hj =>
    obtain rfl : y1 = p := by simpa using hj
    refine ⟨[.slice A1 y1.length k1], rfl, ⟨A1, k1, rfl, (Reads.C h1).1, (Reads.C h1).2⟩, fun i u hu => ?_⟩
    match i, hu with
    | 0, hu =>
      obtain rfl : Value.slice A1 y1.length k1 = u := by simpa using hu
      exact (blk_cell hb 0).trans rfl
  | 1, hj =>
    obtain rfl : y2 = p := by simpa using hj
    refine ⟨[.slice A2 y2.length k2], rfl, ⟨A2, k2, rfl, (Reads.C h2).1, (Reads.C h2).2⟩, fun i u hu => ?_⟩
    match i, hu with
    | 0, hu =>
      obtain rfl : Value.slice A2 y2.length k2 = u := by simpa using hu
      exact (blk_cell hb 1).trans rfl
end
end Go.Proofs.Ytekjnjejgefbhaa.Q

set_option linter.unusedVariables false
set_option linter.unusedSimpArgs false
namespace Go.Proofs.Ytekjnjejgefbhaa.Q
open Go.RowKit Go.Proofs.Ytekjnjejgefbhaa.F Go.Proofs.YtekjnjejgefbhaaW.PrintWords Go.Proofs.YtekjnjejgefbhaaW.PrintLast Go.Proofs.YtekjnjejgefbhaaW.PrintMore
theorem impl_sum_ev (l : List Int) (hl : l.length ≤ 1048576) (h : ∀ x ∈ l, 0 ≤ x ∧ x ≤ 1000000) : Ev (fun k => impl_sum.f k l) (isum l) := by
  unfold impl_sum.f
  have key : ∀ i, i ≤ l.length → ∀ s : Int, 0 ≤ s → s ≤ 1000000 * i → Ev (fun k => impl_sum.l0 k s l (l.length : Int) (i : Int)) (s + isum (l.drop i)) := by
    refine downTo l.length ?_ ?_
    · intro s a b
      refine Ev.step (fun k => by rw [impl_sum.l0]) ?_
      exact ev_neg (by omega) (ev_val (by rw [List.drop_length]; simp [isum]))
    · intro i hi ih s a b
      have hx := h _ (rd_mem l i hi)
      refine Ev.step (fun k => by rw [impl_sum.l0]) ?_
      refine ev_pos (by omega) (ev_pos (by omega) (ev_pos (by omega) ?_))
      rw [wrap_succ (by omega), wrap_id (by omega) (by omega)]
      refine ev_eq (ih _ (by omega) (by omega)) ?_
      rw [drop_rd l i hi]
      simp only [isum]; omega
  have := key 0 (by omega) 0 (by omega) (by omega)
  simpa using this
end Go.Proofs.Ytekjnjejgefbhaa.Q

set_option linter.unusedVariables false
set_option linter.unusedSimpArgs false
namespace Go.Proofs.Ytekjnjejgefbhaa.Q
open Go.RowKit Go.Proofs.Ytekjnjejgefbhaa.F Go.Proofs.YtekjnjejgefbhaaW.PrintWords Go.Proofs.YtekjnjejgefbhaaW.PrintLast Go.Proofs.YtekjnjejgefbhaaW.PrintMore
theorem spec_l1In_eq (a b c : Int) : spec_l1In.f a b c = some (decide (b ≤ a ∧ a ≤ c)) := by
  unfold spec_l1In.f
  by_cases h : b ≤ a
  · rw [if_pos h]; simp [h]
  · rw [if_neg h]; simp [h]
end Go.Proofs.Ytekjnjejgefbhaa.Q

set_option linter.unusedVariables false
set_option linter.unusedSimpArgs false
namespace Go.Proofs.Ytekjnjejgefbhaa.Q
open Go.RowKit Go.Proofs.Ytekjnjejgefbhaa.F Go.Proofs.YtekjnjejgefbhaaW.PrintWords Go.Proofs.YtekjnjejgefbhaaW.PrintLast Go.Proofs.YtekjnjejgefbhaaW.PrintMore
/-- at most nine rows, of one length of at most nine, of numbers from 0 to 9, with a sum of at most 9 -/
def IsMat (m : List (List Int)) : Prop := m.length ≤ 9 ∧ (∀ r ∈ m, r.length = (m.getD 0 []).length ∧ r.length ≤ 9 ∧ ∀ x ∈ r, 0 ≤ x ∧ x ≤ 9) ∧ msum m ≤ 9
instance (m : List (List Int)) : Decidable (IsMat m) := by unfold IsMat; infer_instance
theorem row_any (r : List Int) : (r.any (fun x => !decide (0 ≤ x ∧ x ≤ 9)) = true) ↔ ¬ ∀ x ∈ r, 0 ≤ x ∧ x ≤ 9 := by
  rw [List.any_eq_true]
  constructor
  · rintro ⟨x, hx, h⟩ g
    rw [decide_eq_true (g x hx)] at h
    cases h
  · intro h
    apply Classical.byContradiction
    intro hn
    refine h (fun x hx => Classical.byContradiction fun hc => hn ⟨x, hx, ?_⟩)
    rw [decide_eq_false hc]; rfl
theorem isMatrixRows_ev (n : Nat) : ∀ (m : List (List Int)) (all : Int), 0 ≤ all → all + 81 * (m.length : Int) ≤ 1000 → ∃ b, Ev (fun k => isMatrixRows k n m all) b ∧ (b = true ↔ (∀ r ∈ m, r.length = n ∧ r.length ≤ 9 ∧ ∀ x ∈ r, 0 ≤ x ∧ x ≤ 9) ∧ all + msum m ≤ 9) := by
  intro m
  induction m with
  | nil =>
    intro all a b
    exact ⟨decide (all ≤ 9), by simp only [isMatrixRows]; exact ev_val rfl, by simp [msum]⟩
  | cons r m ih =>
    intro all a b
    simp only [List.length_cons] at b
    by_cases h1 : r.length = n
    · by_cases h2 : r.length ≤ 9
      · by_cases h3 : ∀ x ∈ r, 0 ≤ x ∧ x ≤ 9
        · have s0 := isum_nonneg (fun x hx => (h3 x hx).1)
          have s1 := isum_le (b := 9) (fun x hx => (h3 x hx).2)
          have s2 : isum r ≤ 81 := by
            have : 9 * r.length ≤ 81 := by omega
            omega
          obtain ⟨v, hv, hp⟩ := ih (all + isum r) (by omega) (by omega)
          refine ⟨v, ?_, ?_⟩
          · simp only [isMatrixRows]
            refine ev_pos h1 (ev_pos h2 (ev_neg (fun h => (row_any r).1 h h3) (Ev.bind (impl_sum_ev r (by omega) (fun x hx => ⟨(h3 x hx).1, by have := (h3 x hx).2; omega⟩)) ?_)))
            rw [wrap_id (by omega) (by omega)]
            exact hv
          · rw [hp]
            simp only [List.mem_cons, forall_eq_or_imp, msum]
            constructor
            · rintro ⟨g1, g2⟩; exact ⟨⟨⟨h1, h2, h3⟩, g1⟩, by omega⟩
            · rintro ⟨⟨_, g1⟩, g2⟩; exact ⟨g1, by omega⟩
        · refine ⟨false, ?_, ?_⟩
          · simp only [isMatrixRows]
            exact ev_pos h1 (ev_pos h2 (ev_pos ((row_any r).2 h3) (ev_val rfl)))
          · simp only [List.mem_cons, forall_eq_or_imp]
            constructor
            · intro h; cases h
            · rintro ⟨⟨⟨_, _, g⟩, _⟩, _⟩; exact absurd g h3
      · refine ⟨false, ?_, ?_⟩
        · simp only [isMatrixRows]; exact ev_pos h1 (ev_neg h2 (ev_val rfl))
        · simp only [List.mem_cons, forall_eq_or_imp]
          constructor
          · intro h; cases h
          · rintro ⟨⟨⟨_, g, _⟩, _⟩, _⟩; exact absurd g h2
    · refine ⟨false, ?_, ?_⟩
      · simp only [isMatrixRows]; exact ev_neg h1 (ev_val rfl)
      · simp only [List.mem_cons, forall_eq_or_imp]
        constructor
        · intro h; cases h
        · rintro ⟨⟨⟨g, _, _⟩, _⟩, _⟩; exact absurd g h1
theorem impl_IsMatrix_ev (m : List (List Int)) : Ev (fun k => impl_IsMatrix.f k m) (decide (IsMat m)) := by
  unfold impl_IsMatrix.f
  refine ev_ite (fun h => ?_) (fun h => ev_val ?_)
  · obtain ⟨b, hb, hp⟩ := isMatrixRows_ev (m.getD 0 []).length m 0 (by omega) (by omega)
    refine ev_eq hb ?_
    rw [Bool.eq_iff_iff, hp, decide_eq_true_eq]
    unfold IsMat
    constructor
    · rintro ⟨g1, g2⟩; exact ⟨h, g1, by omega⟩
    · rintro ⟨_, g1, g2⟩; exact ⟨g1, by omega⟩
  · symm; rw [decide_eq_false_iff_not]; rintro ⟨g, _⟩; exact h g
theorem spec_IsMatrix_l1 (m : List (List Int)) (hm : m.length ≤ 1048576) (hr : ∀ r ∈ m, r.length ≤ 1048576) (i : Nat) (hi : i < m.length) (r : Bool) :
    ∀ j, j ≤ (rd_L1 m (i : Int)).length → ∀ s : Int, 0 ≤ s → s ≤ 9 →
    ((∀ x ∈ (rd_L1 m (i : Int)).drop j, 0 ≤ x ∧ x ≤ 9) → s + isum ((rd_L1 m (i : Int)).drop j) ≤ 9 → Ev (fun k => spec_IsMatrix.l0 k m (s + isum ((rd_L1 m (i : Int)).drop j)) ((i + 1 : Nat) : Int)) r) →
    (¬ ((∀ x ∈ (rd_L1 m (i : Int)).drop j, 0 ≤ x ∧ x ≤ 9) ∧ s + isum ((rd_L1 m (i : Int)).drop j) ≤ 9) → r = false) →
    Ev (fun k => spec_IsMatrix.l1 k m s (i : Int) (j : Int)) r := by
  have hrow := hr _ (rows_mem m i hi)
  refine downTo _ ?_ ?_
  · intro s s0 s9 hgood hbad
    rw [List.drop_length] at hgood
    refine Ev.step (fun k => by rw [spec_IsMatrix.l1]) ?_
    refine ev_pos (by omega) (ev_pos (by omega) (ev_neg (by omega) ?_))
    rw [wrap_succ (by omega)]
    have := hgood (by simp) (by simp [isum]; omega)
    simpa [isum] using this
  · intro j hj ih s s0 s9 hgood hbad
    refine Ev.step (fun k => by rw [spec_IsMatrix.l1]) ?_
    refine ev_pos (by omega) (ev_pos (by omega) (ev_pos (by omega) (ev_pos (by omega) (ev_bindc (spec_l1In_eq _ _ _) ?_))))
    rw [drop_rd _ j hj] at hgood hbad
    generalize rd (rd_L1 m (i : Int)) (j : Int) = x at hgood hbad ⊢
    simp only [isum] at hgood hbad
    by_cases hx : 0 ≤ x ∧ x ≤ 9
    · refine ev_pos (decide_eq_true hx) ?_
      rw [wrap_id (i := s + x) (by omega) (by omega), wrap_succ (by omega)]
      by_cases h9 : s + x > 9
      · refine ev_pos h9 (ev_val ?_)
        symm; apply hbad
        rintro ⟨g1, g2⟩
        have := isum_nonneg (l := (rd_L1 m (i : Int)).drop (j + 1)) (fun y hy => (g1 y (by simp [hy])).1)
        omega
      · refine ev_neg h9 (ih (s + x) (by omega) (by omega) (fun g1 g2 => ?_) (fun g => ?_))
        · have := hgood (fun y hy => by rcases List.mem_cons.1 hy with rfl | hy; exact hx; exact g1 y hy) (by omega)
          rw [show s + (x + isum ((rd_L1 m (i : Int)).drop (j + 1))) = s + x + isum ((rd_L1 m (i : Int)).drop (j + 1)) by omega] at this
          exact this
        · apply hbad
          rintro ⟨g1, g2⟩
          exact g ⟨fun y hy => g1 y (by simp [hy]), by omega⟩
    · refine ev_neg (by rw [decide_eq_true_eq]; exact hx) (ev_val ?_)
      symm; apply hbad
      rintro ⟨g1, _⟩
      exact hx (g1 x (by simp))
theorem spec_IsMatrix_ev (m : List (List Int)) (hm : m.length ≤ 1048576) (hr : ∀ r ∈ m, r.length ≤ 1048576) : Ev (fun k => spec_IsMatrix.f k m) (decide (IsMat m)) := by
  have key : ∀ i, i ≤ m.length → ∀ s : Int, 0 ≤ s → s ≤ 9 → ∃ b, Ev (fun k => spec_IsMatrix.l0 k m s (i : Int)) b ∧ (b = true ↔ m.length ≤ 9 ∧ (m ≠ [] → (m.getD 0 []).length ≤ 9) ∧ (∀ r ∈ m.drop i, r.length = (m.getD 0 []).length ∧ ∀ x ∈ r, 0 ≤ x ∧ x ≤ 9) ∧ s + msum (m.drop i) ≤ 9) := by
    refine downTo m.length ?_ ?_
    · intro s s0 s9
      rw [List.drop_length]
      by_cases h1 : m.length ≤ 9
      · by_cases h2 : m.length = 0
        · refine ⟨true, ?_, ?_⟩
          · refine Ev.step (fun k => by rw [spec_IsMatrix.l0]) ?_
            exact ev_neg (by omega) (ev_pos (by omega) (ev_pos (by omega) (ev_val rfl)))
          · have : m = [] := List.length_eq_zero_iff.1 h2
            simp [this, msum, s9]
        · have e0 : rd_L1 m 0 = m.getD 0 [] := rows_nat m 0
          refine ⟨decide (((rd_L1 m 0).length : Int) ≤ 9), ?_, ?_⟩
          · refine Ev.step (fun k => by rw [spec_IsMatrix.l0]) ?_
            exact ev_neg (by omega) (ev_pos (by omega) (ev_neg (by omega) (ev_pos (by omega) (ev_val rfl))))
          · rw [e0, decide_eq_true_eq]
            have hne : m ≠ [] := fun e => h2 (by rw [e]; rfl)
            constructor
            · intro g; exact ⟨h1, fun _ => by omega, by simp, by simp [msum]; omega⟩
            · rintro ⟨_, g, _⟩; have := g hne; omega
      · refine ⟨false, ?_, ?_⟩
        · refine Ev.step (fun k => by rw [spec_IsMatrix.l0]) ?_
          exact ev_neg (by omega) (ev_neg (by omega) (ev_val rfl))
        · constructor
          · intro h; cases h
          · rintro ⟨g, _⟩; exact absurd g h1
    · intro i hi ih s s0 s9
      have e0 : rd_L1 m 0 = m.getD 0 [] := rows_nat m 0
      have hd := drop_rows m i hi
      by_cases hlen : (rd_L1 m (i : Int)).length = (m.getD 0 []).length
      · by_cases hgood : (∀ x ∈ rd_L1 m (i : Int), 0 ≤ x ∧ x ≤ 9) ∧ s + isum (rd_L1 m (i : Int)) ≤ 9
        · have s1 := isum_nonneg (fun x hx => (hgood.1 x hx).1)
          obtain ⟨b, hb, hp⟩ := ih (s + isum (rd_L1 m (i : Int))) (by omega) hgood.2
          refine ⟨b, ?_, ?_⟩
          · refine Ev.step (fun k => by rw [spec_IsMatrix.l0]) ?_
            refine ev_pos (by omega) (ev_pos (by omega) (ev_pos (by omega) (ev_pos (by rw [e0]; omega) ?_)))
            refine spec_IsMatrix_l1 m hm hr i hi b 0 (by omega) s s0 s9 (fun _ _ => ?_) (fun g => ?_)
            · rw [List.drop_zero]; exact hb
            · rw [List.drop_zero] at g; exact absurd hgood g
          · rw [hp, hd]
            simp only [List.mem_cons, forall_eq_or_imp, msum]
            constructor
            · rintro ⟨g1, g2, g3, g4⟩; exact ⟨g1, g2, ⟨⟨hlen, hgood.1⟩, g3⟩, by omega⟩
            · rintro ⟨g1, g2, ⟨_, g3⟩, g4⟩; exact ⟨g1, g2, g3, by omega⟩
        · refine ⟨false, ?_, ?_⟩
          · refine Ev.step (fun k => by rw [spec_IsMatrix.l0]) ?_
            refine ev_pos (by omega) (ev_pos (by omega) (ev_pos (by omega) (ev_pos (by rw [e0]; omega) ?_)))
            refine spec_IsMatrix_l1 m hm hr i hi false 0 (by omega) s s0 s9 (fun g1 g2 => ?_) (fun _ => rfl)
            rw [List.drop_zero] at g1 g2
            exact absurd ⟨g1, g2⟩ hgood
          · rw [hd]
            simp only [List.mem_cons, forall_eq_or_imp, msum]
            constructor
            · intro h; cases h
            · rintro ⟨_, _, ⟨⟨_, g3⟩, g5⟩, g4⟩
              exfalso; apply hgood
              have := msum_nonneg (fun r hr x hx => ((g5 r hr).2 x hx).1)
              exact ⟨g3, by omega⟩
      · refine ⟨false, ?_, ?_⟩
        · refine Ev.step (fun k => by rw [spec_IsMatrix.l0]) ?_
          exact ev_pos (by omega) (ev_pos (by omega) (ev_pos (by omega) (ev_neg (by rw [e0]; omega) (ev_val rfl))))
        · rw [hd]
          simp only [List.mem_cons, forall_eq_or_imp]
          constructor
          · intro h; cases h
          · rintro ⟨_, _, ⟨⟨g, _⟩, _⟩, _⟩; exact absurd g hlen
  unfold spec_IsMatrix.f
  obtain ⟨b, hb, hp⟩ := key 0 (by omega) 0 (by omega) (by omega)
  refine ev_eq hb ?_
  rw [Bool.eq_iff_iff, hp, decide_eq_true_eq, List.drop_zero]
  unfold IsMat
  constructor
  · rintro ⟨g1, g2, g3, g4⟩
    refine ⟨g1, fun r hr => ?_, by omega⟩
    have hne : m ≠ [] := fun e => by rw [e] at hr; simp at hr
    have := g2 hne
    have h3 := g3 r hr
    exact ⟨h3.1, by omega, h3.2⟩
  · rintro ⟨g1, g2, g3⟩
    refine ⟨g1, fun hne => ?_, fun r hr => ⟨(g2 r hr).1, (g2 r hr).2.2⟩, by omega⟩
    cases m with
    | nil => exact absurd rfl hne
    | cons r m => exact (g2 r (by simp)).2.1
end Go.Proofs.Ytekjnjejgefbhaa.Q

set_option linter.unusedVariables false
set_option linter.unusedSimpArgs false
namespace Go.Proofs.Ytekjnjejgefbhaa.Q
open Go.RowKit Go.Proofs.Ytekjnjejgefbhaa.F Go.Proofs.YtekjnjejgefbhaaW.PrintWords Go.Proofs.YtekjnjejgefbhaaW.PrintLast Go.Proofs.YtekjnjejgefbhaaW.PrintMore
def rowPairs (i : Nat) : List Int → Nat → List (Int × Int)
  | [], _ => []
  | n :: r, j => List.replicate n.toNat (((i + 1 : Nat) : Int), ((j + 1 : Nat) : Int)) ++ rowPairs i r (j + 1)
def matPairs : List (List Int) → Nat → List (Int × Int)
  | [], _ => []
  | r :: m, i => rowPairs i r 0 ++ matPairs m (i + 1)
def sel (b : Bool) (p : Int × Int) : Int := if b = true then p.1 else p.2
def selW (b : Bool) (L : List (Int × Int)) : List Int := L.map (sel b)
def matWord (b : Bool) (m : List (List Int)) : List Int := if IsMat m then selW b (matPairs m 0) else []
theorem selW_append (b : Bool) (L M : List (Int × Int)) : selW b (L ++ M) = selW b L ++ selW b M := List.map_append
theorem rowPairs_drop (i : Nat) (r : List Int) (j : Nat) (hj : j < r.length) : rowPairs i (r.drop j) j = List.replicate (rd r (j : Int)).toNat (((i + 1 : Nat) : Int), ((j + 1 : Nat) : Int)) ++ rowPairs i (r.drop (j + 1)) (j + 1) := by
  rw [List.drop_eq_getElem_cons hj, rowPairs, rd_eq r j hj]
theorem matPairs_drop (m : List (List Int)) (i : Nat) (hi : i < m.length) : matPairs (m.drop i) i = rowPairs i m[i] 0 ++ matPairs (m.drop (i + 1)) (i + 1) := by
  rw [List.drop_eq_getElem_cons hi, matPairs]
theorem rowPairs_bd (i : Nat) : ∀ (r : List Int) (j : Nat), (∀ x ∈ r, x ≤ 9) → (rowPairs i r j).length ≤ 9 * r.length
  | [], _, _ => by simp [rowPairs]
  | n :: r, j, h => by
    have h1 := h n (by simp)
    have h2 := rowPairs_bd i r (j + 1) (fun x hx => h x (by simp [hx]))
    rw [rowPairs, List.length_append, List.length_replicate, List.length_cons]
    omega
theorem matPairs_bd : ∀ (m : List (List Int)) (i : Nat), (∀ r ∈ m, r.length ≤ 9 ∧ ∀ x ∈ r, x ≤ 9) → (matPairs m i).length ≤ 81 * m.length
  | [], _, _ => by simp [matPairs]
  | r :: m, i, h => by
    have h1 := h r (by simp)
    have h2 := matPairs_bd m (i + 1) (fun x hx => h x (by simp [hx]))
    have h3 := rowPairs_bd i r 0 h1.2
    rw [matPairs, List.length_append, List.length_cons]
    omega
theorem matWord_bd (b : Bool) (m : List (List Int)) : (matWord b m).length ≤ 729 := by
  unfold matWord
  split
  · rename_i h
    have h1 := matPairs_bd m 0 (fun r hr => ⟨(h.2.1 r hr).2.1, fun x hx => ((h.2.1 r hr).2.2 x hx).2⟩)
    have := h.1
    unfold selW
    rw [List.length_map]
    omega
  · simp
theorem l16_l2 (m : List (List Int)) (b : Bool) (i j : Nat) (hi : i < m.length) (hi9 : i ≤ 1000) (hj : j < (rd_L1 m (i : Int)).length) (hj9 : j ≤ 1000) (x : Nat) (hx : rd (rd_L1 m (i : Int)) (j : Int) = (x : Int)) (hx9 : x ≤ 9) (r : List Int) : ∀ (d q : Nat) (out : List Int), q + d = x → out.length + d ≤ 1000000 →
    Ev (fun k => spec_l16Word.l1 k m b (out ++ List.replicate d (sel b (((i + 1 : Nat) : Int), ((j + 1 : Nat) : Int)))) (i : Int) ((j + 1 : Nat) : Int)) r → Ev (fun k => spec_l16Word.l2 k m b out (i : Int) (j : Int) (q : Int)) r
  | 0, q, out, hq, _, h => by
    refine Ev.step (fun k => by rw [spec_l16Word.l2]) ?_
    refine ev_pos (by omega) (ev_pos (by omega) (ev_pos (by omega) (ev_pos (by omega) (ev_neg (by omega) ?_))))
    rw [wrap_succ (by omega)]
    rwa [List.replicate_zero, List.append_nil] at h
  | d + 1, q, out, hq, hl, h => by
    refine Ev.step (fun k => by rw [spec_l16Word.l2]) ?_
    refine ev_pos (by omega) (ev_pos (by omega) (ev_pos (by omega) (ev_pos (by omega) (ev_pos (by omega) ?_))))
    have e : ∀ v : Int, out ++ List.replicate (d + 1) v = (out ++ [v]) ++ List.replicate d v := fun v => by rw [List.replicate_succ, List.append_assoc]; rfl
    rw [e] at h
    rw [wrap_succ (show i < 9223372036854775807 by omega), wrap_succ (show j < 9223372036854775807 by omega), wrap_succ (show q < 9223372036854775807 by omega)]
    have hl2 : ∀ v : Int, (out ++ [v]).length + d ≤ 1000000 := fun v => by rw [List.length_append, List.length_singleton]; omega
    cases b with
    | true => exact ev_pos rfl (ev_pos (by omega) (l16_l2 m true i j hi hi9 hj hj9 x hx hx9 r d (q + 1) _ (by omega) (hl2 _) h))
    | false => exact ev_neg (by decide) (ev_pos (by omega) (l16_l2 m false i j hi hi9 hj hj9 x hx hx9 r d (q + 1) _ (by omega) (hl2 _) h))
theorem l16_l1 (m : List (List Int)) (b : Bool) (i : Nat) (hi : i < m.length) (hi9 : i ≤ 1000) (row : List Int) (hrow : rd_L1 m (i : Int) = row) (hr9 : row.length ≤ 9) (hx9 : ∀ x ∈ row, 0 ≤ x ∧ x ≤ 9) (r : List Int) : ∀ (d j : Nat) (out : List Int), j + d = row.length → out.length + 9 * d ≤ 10000 →
    Ev (fun k => spec_l16Word.l0 k m b (out ++ selW b (rowPairs i (row.drop j) j)) ((i + 1 : Nat) : Int)) r → Ev (fun k => spec_l16Word.l1 k m b out (i : Int) (j : Int)) r
  | 0, j, out, hj, _, h => by
    refine Ev.step (fun k => by rw [spec_l16Word.l1]) ?_
    refine ev_pos (by omega) (ev_pos (by omega) (ev_neg (by rw [hrow]; omega) ?_))
    rw [wrap_succ (by omega)]
    rwa [List.drop_of_length_le (by omega), rowPairs, selW, List.map_nil, List.append_nil] at h
  | d + 1, j, out, hj, hl, h => by
    have hjl : j < row.length := by omega
    have hx := hx9 _ (rd_mem row j hjl)
    obtain ⟨x, hxe⟩ : ∃ x : Nat, rd row (j : Int) = (x : Int) := ⟨(rd row (j : Int)).toNat, by omega⟩
    refine Ev.step (fun k => by rw [spec_l16Word.l1]) ?_
    refine ev_pos (by omega) (ev_pos (by omega) (ev_pos (by rw [hrow]; omega) ?_))
    refine l16_l2 m b i j hi hi9 (by rw [hrow]; exact hjl) (by omega) x (by rw [hrow]; exact hxe) (by omega) r x 0 out (by omega) (by omega) ?_
    refine l16_l1 m b i hi hi9 row hrow hr9 hx9 r d (j + 1) _ (by omega) (by rw [List.length_append, List.length_replicate]; omega) ?_
    rw [rowPairs_drop i row j hjl, selW_append, hxe, Int.toNat_natCast] at h
    rw [List.append_assoc]
    rwa [selW, List.map_replicate] at h
theorem l16_l0 (m : List (List Int)) (b : Bool) (hM : IsMat m) (hr : ∀ r ∈ m, r.length ≤ 1048576) : ∀ (d i : Nat) (out : List Int), i + d = m.length → out.length ≤ 81 * i → Ev (fun k => spec_l16Word.l0 k m b out (i : Int)) (out ++ selW b (matPairs (m.drop i) i))
  | 0, i, out, hi, _ => by
    refine Ev.step (fun k => by rw [spec_l16Word.l0]) (ev_neg (by omega) (Ev.step (fun k => by rw [spec_l16Word.j1]) (ev_neg (by decide) (ev_val ?_))))
    rw [List.drop_of_length_le (by omega), matPairs, selW, List.map_nil, List.append_nil]
  | d + 1, i, out, hi, hl => by
    have hil : i < m.length := by omega
    have hm9 := hM.1
    have hrow := hM.2.1 m[i] (List.getElem_mem hil)
    have hIM := spec_IsMatrix_ev m (by omega) hr
    rw [decide_eq_true hM] at hIM
    refine Ev.step (fun k => by rw [spec_l16Word.l0]) (ev_pos (by omega) (Ev.bind hIM (Ev.step (fun k => by rw [spec_l16Word.j1]) (ev_pos rfl ?_))))
    refine l16_l1 m b i hil (by omega) m[i] (rows_eq m i hil) hrow.2.1 hrow.2.2 _ m[i].length 0 out (by omega) (by have := hrow.2.1; omega) ?_
    rw [List.drop_zero]
    have hb := rowPairs_bd i m[i] 0 (fun x hx => (hrow.2.2 x hx).2)
    have := l16_l0 m b hM hr d (i + 1) (out ++ selW b (rowPairs i m[i] 0)) (by omega) (by rw [List.length_append, selW, List.length_map]; have := hrow.2.1; omega)
    rwa [List.append_assoc, ← selW_append, ← matPairs_drop m i hil] at this
theorem spec_l16Word_ev (m : List (List Int)) (b : Bool) (hm : m.length ≤ 1048576) (hr : ∀ r ∈ m, r.length ≤ 1048576) : Ev (fun k => spec_l16Word.f k m b) (matWord b m) := by
  unfold spec_l16Word.f matWord
  by_cases h : IsMat m
  · rw [if_pos h]
    have := l16_l0 m b h hr m.length 0 [] (by omega) (by simp)
    rwa [List.drop_zero, List.nil_append] at this
  · rw [if_neg h]
    have hIM := spec_IsMatrix_ev m hm hr
    rw [decide_eq_false h] at hIM
    refine Ev.step (fun k => by rw [spec_l16Word.l0]) (ev_ite (fun _ => Ev.bind hIM ?_) (fun _ => ?_))
    · exact Ev.step (fun k => by rw [spec_l16Word.j1]) (ev_neg (by decide) (ev_val rfl))
    · exact Ev.step (fun k => by rw [spec_l16Word.j1]) (ev_neg (by decide) (ev_val rfl))
theorem spec_TopWord_ev (m : List (List Int)) (hm : m.length ≤ 1048576) (hr : ∀ r ∈ m, r.length ≤ 1048576) : Ev (fun k => spec_TopWord.f k m) (matWord true m) := by
  unfold spec_TopWord.f
  exact Ev.bind (spec_l16Word_ev m true hm hr) (ev_val rfl)
theorem spec_BottomWord_ev (m : List (List Int)) (hm : m.length ≤ 1048576) (hr : ∀ r ∈ m, r.length ≤ 1048576) : Ev (fun k => spec_BottomWord.f k m) (matWord false m) := by
  unfold spec_BottomWord.f
  exact Ev.bind (spec_l16Word_ev m false hm hr) (ev_val rfl)
end Go.Proofs.Ytekjnjejgefbhaa.Q

set_option linter.unusedVariables false
set_option linter.unusedSimpArgs false
namespace Go.Proofs.Ytekjnjejgefbhaa.Q
open Go.RowKit Go.Proofs.Ytekjnjejgefbhaa.F Go.Proofs.YtekjnjejgefbhaaW.PrintWords Go.Proofs.YtekjnjejgefbhaaW.PrintLast Go.Proofs.YtekjnjejgefbhaaW.PrintMore
theorem recQ_map (f : Int → Int) (q : List (List Int)) (r : Nat) (n : Int) : (recQ q r n).map (List.map f) = recQ (q.map (List.map f)) r (f n) := by
  have e : ∀ Q : List (List Int), (Q.set r (Q.getD r [] ++ [n])).map (List.map f) = (Q.map (List.map f)).set r ((Q.map (List.map f)).getD r [] ++ [f n]) := by
    intro Q
    rw [List.map_set, List.map_append]
    congr 2
    rw [List.getD_eq_getElem?_getD, List.getD_eq_getElem?_getD, List.getElem?_map]
    cases Q[r]? <;> rfl
  unfold recQ
  rw [List.length_map]
  split
  · rw [e, List.map_append]; rfl
  · rw [e]
theorem bothAt_fst (w : List Int) (ns ns' : Nat → Int) : ∀ i, (bothAt w ns i).1 = (bothAt w ns' i).1
  | 0 => rfl
  | i + 1 => by simp only [bothAt]; rw [bothAt_fst w ns ns' i]
theorem bothAt_map (w : List Int) (ns : Nat → Int) (f : Int → Int) : ∀ i, ((bothAt w ns i).2).map (List.map f) = (bothAt w (fun k => f (ns k)) i).2
  | 0 => rfl
  | i + 1 => by
    simp only [bothAt]
    rw [recQ_map, bothAt_map w ns f i, bothAt_fst w ns (fun k => f (ns k)) i]
theorem recQ_mem {q : List (List Int)} {r : Nat} {n : Int} {row : List Int} (h : row ∈ recQ q r n) : (row ∈ q ∨ row = []) ∨ ∃ s, (s ∈ q ∨ s = []) ∧ row = s ++ [n] := by
  have key : ∀ Q : List (List Int), (∀ s ∈ Q, s ∈ q ∨ s = []) → row ∈ Q.set r (Q.getD r [] ++ [n]) → (row ∈ q ∨ row = []) ∨ ∃ s, (s ∈ q ∨ s = []) ∧ row = s ++ [n] := by
    intro Q hQ hr
    rcases List.mem_or_eq_of_mem_set hr with h1 | h1
    · exact .inl (hQ _ h1)
    · refine .inr ⟨Q.getD r [], ?_, h1⟩
      rw [List.getD_eq_getElem?_getD]
      by_cases hl : r < Q.length
      · rw [List.getElem?_eq_getElem hl]; exact hQ _ (List.getElem_mem hl)
      · rw [List.getElem?_eq_none (by omega)]; exact .inr rfl
  unfold recQ at h
  split at h
  · refine key _ (fun s hs => ?_) h
    rcases List.mem_append.1 hs with h1 | h1
    · exact .inl h1
    · exact .inr (by simpa using h1)
  · exact key _ (fun s hs => .inl hs) h
theorem recQ_len (q : List (List Int)) (r : Nat) (n : Int) : (recQ q r n).length ≤ q.length + 1 := by
  unfold recQ
  rw [List.length_set]
  split
  · rw [List.length_append, List.length_singleton]; exact Nat.le_refl _
  · omega
theorem bothAt_bd (w : List Int) : ∀ i, (bothAt w (fun k => ((k + 1 : Nat) : Int)) i).2.length ≤ i ∧ ∀ row ∈ (bothAt w (fun k => ((k + 1 : Nat) : Int)) i).2, row.length ≤ i ∧ ∀ x ∈ row, 1 ≤ x ∧ x ≤ (i : Int)
  | 0 => ⟨by simp [bothAt], fun row h => by simp [bothAt] at h⟩
  | i + 1 => by
    obtain ⟨h1, h2⟩ := bothAt_bd w i
    simp only [bothAt]
    refine ⟨Nat.le_trans (recQ_len _ _ _) (by omega), fun row hr => ?_⟩
    have h3 : ∀ s : List Int, (s ∈ (bothAt w (fun k => ((k + 1 : Nat) : Int)) i).2 ∨ s = []) → s.length ≤ i ∧ ∀ x ∈ s, 1 ≤ x ∧ x ≤ (i : Int) := by
      rintro s (h | rfl)
      · exact h2 s h
      · exact ⟨by simp, fun x hx => by simp at hx⟩
    rcases recQ_mem hr with h | ⟨s, hs, rfl⟩
    · have := h3 row h
      exact ⟨by omega, fun x hx => by have := this.2 x hx; omega⟩
    · have := h3 s hs
      refine ⟨by rw [List.length_append, List.length_singleton]; omega, fun x hx => ?_⟩
      rcases List.mem_append.1 hx with h | h
      · have := this.2 x h; omega
      · obtain rfl := List.mem_singleton.1 h
        omega
theorem insRows_len : ∀ (p : List (List Int)) (x : Int), (insRows p x).length ≤ p.length + 1
  | [], x => by simp [insRows]
  | r :: p, x => by
    rw [insRows]
    split
    · simp
    · rw [List.length_cons, List.length_cons]; have := insRows_len p (rd r (bump r x)); omega
theorem insRows_bulk : ∀ (p : List (List Int)) (x : Int), bulk (insRows p x) = bulk p + 1
  | [], x => by simp [insRows, bulk]
  | r :: p, x => by
    rw [insRows]
    split
    · simp only [bulk, List.length_append, List.length_singleton]; omega
    · simp only [bulk, List.length_set]; rw [insRows_bulk p (rd r (bump r x))]; omega
theorem bothAt_fst_bd (w : List Int) (ns : Nat → Int) : ∀ i, (bothAt w ns i).1.length ≤ i ∧ bulk (bothAt w ns i).1 = i
  | 0 => ⟨by simp [bothAt], by simp [bothAt, bulk]⟩
  | i + 1 => by
    obtain ⟨h1, h2⟩ := bothAt_fst_bd w ns i
    simp only [bothAt]
    exact ⟨Nat.le_trans (insRows_len _ _) (by omega), by rw [insRows_bulk, h2]⟩
/-- rows, of which the first r, and k numbers of the next one, have been given other numbers -/
def relab (f : Int → Int) (Q : List (List Int)) (r k : Nat) : List (List Int) := (List.range Q.length).map (fun i => if i < r then (Q.getD i []).map f else if i = r then ((Q.getD i []).take k).map f ++ (Q.getD i []).drop k else Q.getD i [])
theorem relab_length (f : Int → Int) (Q : List (List Int)) (r k : Nat) : (relab f Q r k).length = Q.length := by simp [relab]
theorem relab_get (f : Int → Int) (Q : List (List Int)) (r k i : Nat) (hi : i < Q.length) : (relab f Q r k)[i]'(by rw [relab_length]; exact hi) = if i < r then Q[i].map f else if i = r then (Q[i].take k).map f ++ Q[i].drop k else Q[i] := by
  simp [relab, List.getD_eq_getElem?_getD, List.getElem?_eq_getElem hi]
theorem relab_start (f : Int → Int) (Q : List (List Int)) : relab f Q 0 0 = Q := by
  refine List.ext_getElem (relab_length ..) fun i h1 h2 => ?_
  rw [relab_get f Q 0 0 i h2, if_neg (by omega)]
  split <;> simp
theorem relab_end (f : Int → Int) (Q : List (List Int)) : relab f Q Q.length 0 = Q.map (List.map f) := by
  refine List.ext_getElem (by rw [relab_length, List.length_map]) fun i h1 h2 => ?_
  have hi : i < Q.length := by rwa [relab_length] at h1
  rw [relab_get f Q _ 0 i hi, if_pos hi, List.getElem_map]
theorem relab_next (f : Int → Int) (Q : List (List Int)) (r : Nat) (hr : r < Q.length) : relab f Q r Q[r].length = relab f Q (r + 1) 0 := by
  refine List.ext_getElem (by rw [relab_length, relab_length]) fun i h1 h2 => ?_
  have hi : i < Q.length := by rwa [relab_length] at h1
  rw [relab_get f Q _ _ i hi, relab_get f Q _ _ i hi]
  by_cases e : i < r
  · rw [if_pos e, if_pos (by omega)]
  · rw [if_neg e]
    by_cases e2 : i = r
    · subst e2
      rw [if_pos rfl, if_pos (by omega)]
      simp
    · rw [if_neg e2, if_neg (by omega)]
      split <;> simp
theorem relab_row (f : Int → Int) (Q : List (List Int)) (r k : Nat) (hr : r < Q.length) : (relab f Q r k)[r]'(by rw [relab_length]; exact hr) = (Q[r].take k).map f ++ Q[r].drop k := by
  rw [relab_get f Q r k r hr, if_neg (by omega), if_pos rfl]
theorem relab_set (f : Int → Int) (Q : List (List Int)) (r k : Nat) (hr : r < Q.length) (hk : k < Q[r].length) : (relab f Q r k).set r (((Q[r].take k).map f ++ Q[r].drop k).set k (f (rd Q[r] (k : Int)))) = relab f Q r (k + 1) := by
  refine List.ext_getElem (by rw [List.length_set, relab_length, relab_length]) fun i h1 h2 => ?_
  have hi : i < Q.length := by rwa [relab_length] at h2
  rw [List.getElem_set]
  by_cases e : r = i
  · subst e
    rw [if_pos rfl, relab_row f Q r (k + 1) hr, rd_eq Q[r] k hk]
    have hl : ((Q[r].take k).map f).length = k := by rw [List.length_map, List.length_take]; omega
    rw [List.set_append_right _ _ (by omega), hl, Nat.sub_self, List.drop_eq_getElem_cons hk, List.set_cons_zero, List.take_succ_eq_append_getElem hk, List.map_append]
    simp
  · rw [if_neg e, relab_get f Q r k i hi, relab_get f Q r (k + 1) i hi, if_neg (show ¬ i = r from fun h => e h.symm), if_neg (show ¬ i = r from fun h => e h.symm)]
/-- what PairOfMatrix answers -/
def pairT (m : List (List Int)) : List Int × List (List Int) × List Int × List (List Int) × Bool :=
  if IsMat m then ([], (bothAt (matWord false m) (fun k => rd (matWord true m) (k : Int)) (matWord false m).length).1, [], (bothAt (matWord false m) (fun k => rd (matWord true m) (k : Int)) (matWord false m).length).2, true) else ([], [], [], [], false)
theorem matWord_len (m : List (List Int)) : (matWord true m).length = (matWord false m).length := by
  unfold matWord
  split
  · simp [selW]
  · rfl
theorem bulk_allP (b : Nat) : ∀ (M : List (List Int)), (∀ r ∈ M, r.length ≤ b) → bulk M ≤ b * M.length
  | [], _ => by simp [bulk]
  | r :: M, h => by
    have h1 := h r (by simp)
    have h2 := bulk_allP b M (fun s hs => h s (by simp [hs]))
    rw [bulk, List.length_cons, Nat.mul_add]
    omega
/-- the second tableau of the reference comes to that of the program -/
theorem pair_relab (w top : List Int) (n : Nat) : (bothAt w (fun k => ((k + 1 : Nat) : Int)) n).2.map (List.map (fun x => rd top (x - 1))) = (bothAt w (fun k => rd top (k : Int)) n).2 := by
  rw [bothAt_map]
  congr 2
  funext k
  rw [Int.natCast_add, Int.natCast_one, Int.add_sub_cancel]
theorem pairT_bd (m : List (List Int)) : (pairT m).1.length ≤ 729 ∧ ((pairT m).2.1.length ≤ 729 ∧ bulk (pairT m).2.1 ≤ 531441) ∧ (pairT m).2.2.1.length ≤ 729 ∧ ((pairT m).2.2.2.1.length ≤ 729 ∧ bulk (pairT m).2.2.2.1 ≤ 531441) := by
  unfold pairT
  split
  · have h0 := matWord_bd false m
    obtain ⟨h1, h2⟩ := bothAt_fst_bd (matWord false m) (fun k => rd (matWord true m) (k : Int)) (matWord false m).length
    obtain ⟨h3, h4⟩ := bothAt_bd (matWord false m) (matWord false m).length
    rw [← pair_relab]
    have h5 := bulk_allP 729 ((bothAt (matWord false m) (fun k => ((k + 1 : Nat) : Int)) (matWord false m).length).2.map (List.map (fun x => rd (matWord true m) (x - 1)))) (fun r hr => by
      obtain ⟨s, hs, rfl⟩ := List.mem_map.1 hr
      rw [List.length_map]
      have := (h4 s hs).1
      omega)
    rw [List.length_map] at h5
    simp only [List.length_nil, List.length_map]
    refine ⟨by omega, ⟨by omega, by omega⟩, by omega, by omega, by omega⟩
  · simp [bulk]
end Go.Proofs.Ytekjnjejgefbhaa.Q

set_option linter.unusedVariables false
set_option linter.unusedSimpArgs false
namespace Go.Proofs.Ytekjnjejgefbhaa.Q
open Go.RowKit Go.Proofs.Ytekjnjejgefbhaa.F Go.Proofs.YtekjnjejgefbhaaW.PrintWords Go.Proofs.YtekjnjejgefbhaaW.PrintLast Go.Proofs.YtekjnjejgefbhaaW.PrintMore
section
variable {w W w1 : World} {L : List Ob}
/-- the first objects are done anew, out of their blocks and new ones -/
theorem St.redo {P P' : List Ob} (h : St w W (P ++ L)) (hK : Kept W w1 (fun k => ∃ p ∈ P, p.ok k)) (hB : Below w.heap.size w w1)
    (hP : ∀ o ∈ P', (∀ k, o.ok k → ((∃ p ∈ P, p.ok k) ∨ W.heap.size ≤ k) ∧ w.heap.size ≤ k ∧ k < w1.heap.size) ∧ o.P w1 ∧ Firm o) (ha : P'.Pairwise (fun a b => ∀ k, a.ok k → ¬ b.ok k)) : St w w1 (P' ++ L) := by
  obtain ⟨_, hL, hPL⟩ := List.pairwise_append.1 h.apart
  refine ⟨hB, fun o ho => ?_, List.pairwise_append.2 ⟨ha, hL, fun a haP b hb k hak hbk => ?_⟩⟩
  · rcases List.mem_append.1 ho with ho | ho
    · obtain ⟨h1, h2, h3⟩ := hP o ho
      exact ⟨fun k hk => (h1 k hk).2, h2, h3⟩
    · obtain ⟨h1, h2, h3⟩ := h.own o (List.mem_append_right _ ho)
      exact ⟨fun k hk => ⟨(h1 k hk).1, Nat.lt_of_lt_of_le (h1 k hk).2 hK.1⟩, h3 W w1 h2 (fun k hk hlt => hK.2 k hlt (fun ⟨p, hp, hpk⟩ => hPL p hp o ho k hpk hk)), h3⟩
  · rcases ((hP a haP).1 k hak).1 with ⟨p, hp, hpk⟩ | hnew
    · exact hPL p hp b hb k hpk hbk
    · have := ((h.own b (List.mem_append_right _ hb)).1 k hbk).2
      omega
theorem St.perm_ {L' : List Ob} (h : St w W L) (hp : List.Perm L L') : St w W L' :=
  ⟨h.below, fun o ho => h.own o (hp.mem_iff.2 ho), (hp.pairwise_iff (fun hab k hb ha => hab k ha hb)).1 h.apart⟩
/-- an object is given up -/
theorem St.drop_ {o : Ob} (h : St w W (o :: L)) : St w W L := ⟨h.below, fun p hp => h.own p (List.mem_cons_of_mem _ hp), (List.pairwise_cons.1 h.apart).2⟩
theorem St.less {L' : List Ob} (h : St w W L) (hs : List.Sublist L' L) : St w W L' := ⟨h.below, fun p hp => h.own p (hs.subset hp), h.apart.sublist hs⟩
theorem St.size_le (h : St w W L) : w.heap.size ≤ W.heap.size := h.below.size
end
/-- in place: one object is done anew, out of its blocks and new ones -/
theorem St.redo1 {w W w1 : World} {L : List Ob} {o o' : Ob} (h : St w W L) (n : Nat) (hn : L[n]? = some o) (hK : Kept W w1 o.ok) (hB : Below w.heap.size w w1)
    (hP : (∀ k, o'.ok k → (o.ok k ∨ W.heap.size ≤ k) ∧ w.heap.size ≤ k ∧ k < w1.heap.size) ∧ o'.P w1 ∧ Firm o') : St w w1 (L.set n o') := by
  obtain ⟨hnl, hno⟩ := List.getElem?_eq_some_iff.1 hn
  have e0 : L = L.take n ++ o :: L.drop (n + 1) := by rw [← hno, ← List.drop_eq_getElem_cons hnl, List.take_append_drop]
  have e1 : List.Perm L ([o] ++ (L.take n ++ L.drop (n + 1))) := by
    have := List.perm_middle (a := o) (l₁ := L.take n) (l₂ := L.drop (n + 1))
    rwa [← e0] at this
  have e2 : List.Perm ([o'] ++ (L.take n ++ L.drop (n + 1))) (L.set n o') := by
    rw [List.set_eq_take_append_cons_drop, if_pos hnl]
    exact (List.perm_middle (a := o') (l₁ := L.take n) (l₂ := L.drop (n + 1))).symm
  refine St.perm_ (St.redo (St.perm_ h e1) (w1 := w1) (P' := [o']) ⟨hK.1, fun k hk hp => hK.2 k hk (fun ho => hp ⟨o, by simp, ho⟩)⟩ hB ?_ (List.pairwise_singleton _ _)) e2
  intro q hq
  obtain rfl := List.mem_singleton.1 hq
  exact ⟨fun k hk => ⟨(hP.1 k hk).1.imp (fun h1 => ⟨o, by simp, h1⟩) id, (hP.1 k hk).2⟩, hP.2⟩
section
variable {ops : Array Oper} {rest : List Oper} {oi : Oper} {a : Act} {Q : Exit → Act → World → Prop} {Kc : Act → World → Prop} {w W : World} {L : List Ob} {α : Type} {d : Kd α} {o0 : Ob} {ok : Nat → Prop} {v : Value} {xs : List α} {p : α} {cs : List Value} {e t : Nat}
theorem St.pushed {w1 : World} {v1 : Value} (h : St w W (o0 :: obS d e w ok v xs :: L)) (hS : Kd.S d e w1 w.heap.size (fun k => (ok k ∨ o0.ok k) ∨ W.heap.size ≤ k) v1 (xs ++ [p])) (hB : Below w.heap.size w w1) (hg : W.grownBy w1 v.ownBlock) : ∃ ok1, St w w1 (obS d e w ok1 v1 (xs ++ [p]) :: L) := by
  have hv := (Kd.S_R (show Kd.S d e W w.heap.size ok v xs from h.get 1 rfl)).1
  refine ⟨fun k => ((ok k ∨ o0.ok k) ∨ W.heap.size ≤ k) ∧ w.heap.size ≤ k ∧ k < w1.heap.size, St.redo (P := [o0, obS d e w ok v xs]) (P' := [obS d e w _ v1 (xs ++ [p])]) h ⟨hg.size, fun k hk hn => hg.block k hk (fun e2 => hn ⟨obS d e w ok v xs, by simp, hv k e2.symm⟩)⟩ hB ?_ (List.pairwise_singleton _ _)⟩
  intro q hq
  obtain rfl := List.mem_singleton.1 hq
  refine ⟨fun k hk => ⟨?_, hk.2⟩, Kd.S_mono (Kd.S_bound hS) (fun k hk => ⟨hk.1, hk.2.1, hk.2.2.1⟩), firmS⟩
  rcases hk.1 with (h1 | h1) | h1
  · exact .inl ⟨obS d e w ok v xs, by simp, h1⟩
  · exact .inl ⟨o0, by simp, h1⟩
  · exact .inr h1
/-- append(v, row): the row is the list's from here on -/
theorem St.push (hgd : oi.guard = none) (s x : Operand) (ho : oi.op = .call { callee := .builtin .append, args := #[s, x], argTypes := #[t, t] }) (ht : (Try.prog).underlying t = some (.slice e)) (z : Value) (bytes : Nat) (hinfo : ((Try.prog).info? e).map (fun i => (i.zero, i.size, i.bytes)) = some (some z, d.sz, bytes)) (hz : z.cells.size = d.sz) (hs0 : 0 < d.sz) (hb0 : 0 < bytes)
    (h : St w W (o0 :: obS d e w ok v xs :: L)) (hs : a.eval s = v) (hx : a.eval x = .slice (some ⟨W.heap.size, 0, none⟩) 1 1) (hM : d.M W w.heap.size o0.ok p cs) (hl : (xs.length + 1) * bytes ≤ 140737488355328)
    (hk : ∀ v1 w1 ok1, St w w1 (obS d e w ok1 v1 (xs ++ [p]) :: L) → wpList Try.prog ops Q rest (a.put oi.dst v1) w1) :
    wpList Try.prog ops Q (oi :: rest) a (W.alloc (.cells cs.toArray e)) := by
  have hap : ∀ k, o0.ok k → ¬ ok k := (List.pairwise_cons.1 h.apart).1 (obS d e w ok v xs) (by simp)
  have hS : Kd.S d e W w.heap.size ok v xs := h.get 1 rfl
  have hlt : ∀ k, ok k → k < W.heap.size := fun k hk => ((h.own (obS d e w ok v xs) (by simp)).1 k hk).2
  have hlt0 : ∀ k, o0.ok k → k < W.heap.size := fun k hk => ((h.own o0 (by simp)).1 k hk).2
  refine Kd.S_append d (w0 := w) w.heap.size hgd s x t e z bytes ho ht hinfo hz hs0 hb0 v xs p cs (fun k => (ok k ∨ o0.ok k) ∨ W.heap.size ≤ k) o0.ok hs hx hM (fun k hk => ⟨.inl (.inr hk), fun e2 => hap k hk ((Kd.S_R hS).1 k e2.symm)⟩) (fun k hk => .inr hk) (Kd.S_mono hS (fun k hk => ⟨.inl (.inl hk), fun h2 => hap k h2 hk⟩)) h.below h.below.size hl ?_
  intro v1 w1 hS1 hB hg _
  obtain ⟨ok1, h1⟩ := St.pushed h hS1 hB hg
  exact hk v1 w1 ok1 h1
/-- the same as a step of a region that draws -/
theorem St.push_step (hw : Region.wanted oi (yielded ops a.tmps) = true) (s x : Operand) (ho : oi.op = .call { callee := .builtin .append, args := #[s, x], argTypes := #[t, t] }) (ht : (Try.prog).underlying t = some (.slice e)) (z : Value) (bytes : Nat) (hinfo : ((Try.prog).info? e).map (fun i => (i.zero, i.size, i.bytes)) = some (some z, d.sz, bytes)) (hz : z.cells.size = d.sz) (hs0 : 0 < d.sz) (hb0 : 0 < bytes)
    (h : St w W (o0 :: obS d e w ok v xs :: L)) (hs : a.eval s = v) (hx : a.eval x = .slice (some ⟨W.heap.size, 0, none⟩) 1 1) (hM : d.M W w.heap.size o0.ok p cs) (hl : (xs.length + 1) * bytes ≤ 140737488355328)
    (hk : ∀ v1 w1 ok1, St w w1 (obS d e w ok1 v1 (xs ++ [p]) :: L) → Kc (a.put oi.dst v1) w1) :
    if Region.wanted oi (yielded ops a.tmps) = true then Oper.wp Try.prog oi a (W.alloc (.cells cs.toArray e)) Kc Q else Kc (a.put oi.dst undef) (W.alloc (.cells cs.toArray e)) := by
  have hap : ∀ k, o0.ok k → ¬ ok k := (List.pairwise_cons.1 h.apart).1 (obS d e w ok v xs) (by simp)
  have hS : Kd.S d e W w.heap.size ok v xs := h.get 1 rfl
  refine Kd.S_append_step d (w0 := w) w.heap.size hw s x t e z bytes ho ht hinfo hz hs0 hb0 v xs p cs (fun k => (ok k ∨ o0.ok k) ∨ W.heap.size ≤ k) o0.ok hs hx hM (fun k hk => ⟨.inl (.inr hk), fun e2 => hap k hk ((Kd.S_R hS).1 k e2.symm)⟩) (fun k hk => .inr hk) (Kd.S_mono hS (fun k hk => ⟨.inl (.inl hk), fun h2 => hap k h2 hk⟩)) h.below h.below.size hl ?_
  intro v1 w1 hS1 hB hg _
  obtain ⟨ok1, h1⟩ := St.pushed h hS1 hB hg
  exact hk v1 w1 ok1 h1
/-- append(v, x) of a whole number -/
theorem St.put1 {xs : List Int} {x : Int} {bb c : Nat} (hgd : oi.guard = none) (s y : Operand) (ho : oi.op = .call { callee := .builtin .append, args := #[s, y], argTypes := #[22, 22] })
    (h : St w W L) (n : Nat) (hn : L[n]? = some (obR (Kd.int .i64) 3 w ok v xs)) (hs : a.eval s = v) (hx : a.eval y = .slice (some ⟨W.heap.size, 0, none⟩) 1 1) (hl : (xs.length + 1) * 8 ≤ 140737488355328)
    (hk : ∀ v1 w1 ok1, St w w1 (L.set n (obR (Kd.int .i64) 3 w ok1 v1 (xs ++ [x]))) → wpList Try.prog ops Q rest (a.put oi.dst v1) w1) :
    wpList Try.prog ops Q (oi :: rest) a (W.alloc (.cells #[.int .i64 x] 3)) := by
  have hR : Kd.R (Kd.int .i64) 3 W w.heap.size ok v xs := h.get n hn
  refine Kd.R_append (Kd.int .i64) (w0 := w) w.heap.size hgd s y 22 3 (.int .i64 0) 8 ho Try.underlying22 info3 rfl (by decide) (by omega) v xs x [.int .i64 x] (fun k => ok k ∨ W.heap.size ≤ k) (fun _ => False) hs hx rfl (fun _ h => h.elim) (fun _ h => .inr h) (Kd.R_mono hR (fun k hk => .inl hk)) h.below h.below.size hl ?_
  intro v1 w1 hR1 hB hg _
  exact hk v1 w1 _ (St.redo1 (o' := obR (Kd.int .i64) 3 w (fun k => (ok k ∨ W.heap.size ≤ k) ∧ w.heap.size ≤ k ∧ k < w1.heap.size) v1 (xs ++ [x])) h n hn ⟨hg.size, fun k hk hne => hg.block k hk (fun e2 => hne (hR.1 k e2.symm))⟩ hB ⟨fun k hk => hk, Kd.R_mono (Kd.R_bound hR1) (fun k hk => ⟨hk.1, hk.2.1, hk.2.2.1⟩), firmR⟩)
end
section
variable {w W : World} {L : List Ob} {ok : Nat → Prop} {v : Value} {xs : List (List Int)}
/-- a row of a list, lent: where it lies, and what the list is once the row is a part of itself or a number in it is another -/
theorem St.lendS (h : St w W L) (n : Nat) (hn : L[n]? = some (obS (Kd.slice 3 (Kd.int .i64)) 22 w ok v xs)) (i : Nat) (hi : i < xs.length) {r : List Int} (hr : xs[i] = r) :
    ∃ g c A1 c1, v = .slice (some ⟨g, 0, none⟩) xs.length c ∧ w.heap.size ≤ g ∧ W.cell? ⟨g, i, none⟩ = some (.slice A1 r.length c1) ∧ W.frozen? ⟨g, i, none⟩ = false ∧ r.length ≤ c1 ∧ Reads (Kd.int .i64) W (.slice A1 r.length c1) r ∧
      (0 < r.length → ∃ g1, A1 = some ⟨g1, 0, none⟩ ∧ w.heap.size ≤ g1) ∧
      (∀ j g1, j < r.length → A1 = some ⟨g1, 0, none⟩ → W.cell? ⟨g1, j, none⟩ = some (.int .i64 (rd r (j : Int))) ∧ W.frozen? ⟨g1, j, none⟩ = false ∧ ∀ x : Int, St w (W.setCell ⟨g1, j, none⟩ (.int .i64 x)) (L.set n (obS (Kd.slice 3 (Kd.int .i64)) 22 w ok v (xs.set i (r.set j x))))) ∧
      (∀ m, m ≤ r.length → St w (W.setCell ⟨g, i, none⟩ (.slice A1 m c1)) (L.set n (obS (Kd.slice 3 (Kd.int .i64)) 22 w ok v (xs.set i (r.take m))))) := by
  subst hr
  have hS : Kd.S (Kd.slice 3 (Kd.int .i64)) 22 W w.heap.size ok v xs := h.get n hn
  have hw := (h.own _ (List.mem_of_getElem? hn)).1
  obtain ⟨A, c, rfl⟩ := Kd.R_slice (Kd.S_R hS)
  obtain ⟨g, c', e0, _⟩ := Kd.R_form (Kd.S_R hS) (by omega)
  injection e0 with ea _ _
  subst ea
  have hgok : ok g := (Kd.S_R hS).1 g (by simp [Value.ownBlock])
  have hgb : w.heap.size ≤ g := Kd.R_base (Kd.S_R hS) g (by simp [Value.ownBlock])
  obtain ⟨oki, cs, hcl, hM, hcc, hfr, hoki, hH⟩ := Kd.S_elem hS [] (i : Int) (by omega) (by omega)
  have ex : xs.getD (i : Int).toNat [] = xs[i] := by rw [Int.toNat_natCast, List.getD_eq_getElem?_getD, List.getElem?_eq_getElem hi]; rfl
  rw [ex] at hM
  obtain ⟨u, rfl, hR⟩ := hM
  obtain ⟨A1, c1, hu, hle, hC1⟩ := Kd.R_reads hR
  subst hu
  have ei : (i : Int).toNat * (Kd.slice 3 (Kd.int .i64)).sz + 0 = i := by show (i : Int).toNat * 1 + 0 = i; omega
  have hx1 := hcc 0 _ rfl
  have hf1 := hfr 0
  rw [ei] at hx1 hf1
  refine ⟨g, c, A1, c1, rfl, hgb, hx1, hf1, hle, ⟨A1, c1, rfl, hle, hC1⟩, fun hp => ?_, fun j g1 hj hA => ?_, fun m hm => ?_⟩
  · obtain ⟨g1, c2, e2, gb2, _⟩ := Kd.R_form hR (by omega)
    injection e2 with ea _ _
    exact ⟨g1, ea, gb2⟩
  · subst hA
    obtain ⟨hy, hz⟩ := Kd.R_celln 0 hR (j : Int) (by omega) (by omega)
    rw [Int.toNat_natCast] at hy hz
    refine ⟨hy, hz, fun x => ?_⟩
    have hg1 : oki g1 := hR.1 g1 (by simp [Value.ownBlock])
    have hb1 : w.heap.size ≤ g1 := Kd.R_base hR g1 (by simp [Value.ownBlock])
    have hP := Kd.R_putg hR (j : Int) x
    rw [Int.toNat_natCast] at hP
    have h1 := Kd.H_back (Kd.H_step hH (fun k _ hn' hlt => hP.2.block k hlt (fun e => hn' (by cases e; exact hg1)))) (x' := xs[i].set j x) (okp := oki) ⟨_, rfl, hP.1⟩ (fun _ h => h)
    rw [Int.toNat_natCast] at h1
    refine St.redo1 (o' := obS _ _ w ok _ _) h n hn ⟨hP.2.size, fun k hk hne => hP.2.block k hk (fun e => hne (by cases e; exact (hoki g1 hg1).1))⟩ (below_set h.below hb1) ⟨fun k hk => ⟨.inl hk, (hw k hk).1, Nat.lt_of_lt_of_le (hw k hk).2 hP.2.size⟩, h1, firmS⟩
  · have h2 := Kd.S_seg0 hH (show (0 : Int) ≤ (i : Int) by omega) (show (i : Int) < (xs.length : Int) by omega) (seg := [.slice A1 m c1]) (j := 0) (show 1 ≤ 1 from by decide) (x' := xs[i].take m) (okp := oki) ⟨.slice A1 m c1, rfl, Kd.R_take hR hm⟩ (fun _ h => h)
    rw [ei, Int.toNat_natCast] at h2
    refine St.redo1 (o' := obS _ _ w ok _ _) h n hn ⟨h2.2.size, fun k hk hne => h2.2.block k hk (fun e => hne (by cases e; exact hgok))⟩ (below_set h.below hgb) ⟨fun k hk => ⟨.inl hk, (hw k hk).1, Nat.lt_of_lt_of_le (hw k hk).2 h2.2.size⟩, h2.1, firmS⟩
end
section
variable {ops : Array Oper} {rest : List Oper} {oi : Oper} {a : Act} {Q : Exit → Act → World → Prop} {w W : World} {L : List Ob} {ok : Nat → Prop} {v : Value} {xs : List (List Int)}
/-- append(rows[i], x), ahead of the store into rows[i] -/
theorem St.growRow (hgd : oi.guard = none) (s y : Operand) (ho : oi.op = .call { callee := .builtin .append, args := #[s, y], argTypes := #[22, 22] }) {x : Int}
    (h : St w W L) (n : Nat) (hn : L[n]? = some (obS (Kd.slice 3 (Kd.int .i64)) 22 w ok v xs)) (i : Nat) (hi : i < xs.length) {r : List Int} (hr : xs[i] = r) {g c c1 : Nat} {A1 : Option Addr} (hv : v = .slice (some ⟨g, 0, none⟩) xs.length c) (hc : W.cell? ⟨g, i, none⟩ = some (.slice A1 r.length c1))
    (hs : a.eval s = .slice A1 r.length c1) (hx : a.eval y = .slice (some ⟨W.heap.size, 0, none⟩) 1 1) (hl : (r.length + 1) * 8 ≤ 140737488355328)
    (hk : ∀ A2 c2 w1, w1.cell? ⟨g, i, none⟩ = some (.slice A1 r.length c1) → w1.frozen? ⟨g, i, none⟩ = false → (∃ ok2, St w (w1.setCell ⟨g, i, none⟩ (.slice A2 (r.length + 1) c2)) (L.set n (obS (Kd.slice 3 (Kd.int .i64)) 22 w ok2 v (xs.set i (r ++ [x]))))) → wpList Try.prog ops Q rest (a.put oi.dst (.slice A2 (r.length + 1) c2)) w1) :
    wpList Try.prog ops Q (oi :: rest) a (W.alloc (.cells #[.int .i64 x] 3)) := by
  subst hv hr
  have hS : Kd.S (Kd.slice 3 (Kd.int .i64)) 22 W w.heap.size ok (.slice (some ⟨g, 0, none⟩) xs.length c) xs := h.get n hn
  have hw := (h.own _ (List.mem_of_getElem? hn)).1
  have hgok : ok g := (Kd.S_R hS).1 g (by simp [Value.ownBlock])
  have hgb : w.heap.size ≤ g := Kd.R_base (Kd.S_R hS) g (by simp [Value.ownBlock])
  obtain ⟨oki, cs, hcl, hM, hcc, hfr, hoki, hH⟩ := Kd.S_elem hS [] (i : Int) (by omega) (by omega)
  have ex : xs.getD (i : Int).toNat [] = xs[i] := by rw [Int.toNat_natCast, List.getD_eq_getElem?_getD, List.getElem?_eq_getElem hi]; rfl
  rw [ex] at hM
  obtain ⟨u, rfl, hR⟩ := hM
  have ei : (i : Int).toNat * (Kd.slice 3 (Kd.int .i64)).sz + 0 = i := by show (i : Int).toNat * 1 + 0 = i; omega
  have hx1 := hcc 0 _ rfl
  rw [ei, hc] at hx1
  injection hx1 with hx1
  subst hx1
  refine Kd.R_append (Kd.int .i64) (w0 := w) w.heap.size hgd s y 22 3 (.int .i64 0) 8 ho Try.underlying22 info3 rfl (by decide) (by omega) (.slice A1 xs[i].length c1) xs[i] x [.int .i64 x] (fun k => oki k ∨ W.heap.size ≤ k) (fun _ => False) hs hx rfl (fun _ h => h.elim) (fun _ h => .inr h) (Kd.R_mono hR (fun k hk => .inl hk)) h.below h.below.size hl ?_
  intro v1 w1 hR1 hB hg hat
  obtain ⟨A2, c2, e2⟩ := Kd.R_slice hR1
  subst e2
  have hne : some g ≠ (Value.slice A1 xs[i].length c1).ownBlock := fun e => (hoki g (hR.1 g e.symm)).2 rfl
  have hH1 : Kd.H (Kd.slice 3 (Kd.int .i64)) 22 w1 w.heap.size (fun k => ok k ∨ W.heap.size ≤ k) (.slice (some ⟨g, 0, none⟩) xs.length c) xs (i : Int) (fun k => oki k ∨ (ok k ∨ W.heap.size ≤ k) ∧ W.heap.size ≤ k) [.slice A1 xs[i].length c1] := by
    have := Kd.H_widen (Kd.H_mono hH (fun k hk => (.inl hk : ok k ∨ W.heap.size ≤ k)))
    have h3 := Kd.H_grown this hg (fun k e => .inl (hR.1 k e))
    exact h3
  obtain ⟨hc7, hf7⟩ := Kd.H_at hH1 (show (0 : Int) ≤ (i : Int) by omega) (show (i : Int) < (xs.length : Int) by omega)
  have hx7 := hc7 0 _ rfl
  have hy7 := hf7 0
  rw [ei] at hx7 hy7
  rw [show (xs[i] ++ [x]).length = xs[i].length + 1 by simp] at hR1 ⊢
  refine hk A2 c2 w1 hx7 hy7 ⟨fun k => (ok k ∨ W.heap.size ≤ k) ∧ w.heap.size ≤ k ∧ k < w1.heap.size, ?_⟩
  have h2 := Kd.S_seg0 hH1 (show (0 : Int) ≤ (i : Int) by omega) (show (i : Int) < (xs.length : Int) by omega) (seg := [.slice A2 (xs[i].length + 1) c2]) (j := 0) (show 1 ≤ 1 from by decide) (x' := xs[i] ++ [x]) (okp := fun k => oki k ∨ W.heap.size ≤ k) ⟨.slice A2 (xs[i].length + 1) c2, rfl, hR1⟩ (fun k hk => hk.imp id (fun h => ⟨.inr h, h⟩))
  rw [ei, Int.toNat_natCast] at h2
  have hz := hg.size
  refine St.redo1 (o' := obS _ _ w _ _ _) h n hn ⟨Nat.le_trans hg.size h2.2.size, fun k hk hne => ?_⟩ (below_set hB hgb) ⟨fun k hk => ⟨hk.1, hk.2.1, Nat.lt_of_lt_of_le hk.2.2 h2.2.size⟩, Kd.S_mono (Kd.S_bound h2.1) (fun k hk => ⟨hk.1, hk.2.1, ?_⟩), firmS⟩
  · exact (h2.2.block k (Nat.lt_of_lt_of_le hk hz) (fun e => hne (by cases e; exact hgok))).trans (hg.block k hk (fun e => hne (hoki k (hR.1 k e.symm)).1))
  · have := hk.2.2.1
    have e3 : (w1.setCell ⟨g, i, none⟩ (.slice A2 (xs[i].length + 1) c2)).heap.size = w1.heap.size := by simp [World.setCell]
    have e4 : (w1.setCells g i [.slice A2 (xs[i].length + 1) c2]).heap.size = w1.heap.size := e3
    omega
end
section
variable {ops : Array Oper} {rest : List Oper} {oi : Oper} {a : Act} {Q : Exit → Act → World → Prop} {w W : World} {L : List Ob}
/-- make([]int, z) -/
theorem St.make0 {N : Tmp} (hgd : oi.guard = none) (hd : oi.dst = some N) (x y : Operand) (ho : oi.op = .makeSlice 22 x y) (z : Nat) (hx : a.eval x = .int .i64 (z : Int)) (hy : a.eval y = .int .i64 (z : Int)) (hl : z * 8 ≤ 281474976710656) (h : St w W L)
    (hk : ∀ v1 w1 ok1, St w w1 (obR (Kd.int .i64) 3 w ok1 v1 (List.replicate z 0) :: L) → wpList Try.prog ops Q rest (a.put oi.dst v1) w1) : wpList Try.prog ops Q (oi :: rest) a W := by
  refine Kd.R_make (Kd.int .i64) (w0 := W) W.heap.size 3 hgd hd 22 x y ho (z : Int) hx hy Try.underlying22 (.int .i64 0) 8 info3 rfl (by decide) (by omega) 0 (ok := fun _ => True) (okp := fun _ => True) rfl (fun _ hk => hk) trivial (by omega) (by rw [Int.toNat_natCast]; exact hl) (Below.refl _ _) (Nat.le_refl _) ?_
  intro v1 w1 hR hB hg _
  rw [Int.toNat_natCast] at hR
  obtain ⟨ok1, h1⟩ := h.addR hB hR
  exact hk v1 w1 ok1 h1
/-- a literal of no element -/
theorem St.lit0 {α : Type} (d : Kd α) (e : Nat) {N : Tmp} (hgd : oi.guard = none) (hd : oi.dst = some N) (hrun : (execOp a.eval oi).run Try.prog W = .ok (.value (.slice (some ⟨W.heap.size, 0, none⟩) 0 0)) (W.alloc (.cells #[] e))) (h : St w W L)
    (hk : ∀ v1 w1 ok1, St w w1 (obS d e w ok1 v1 [] :: L) → wpList Try.prog ops Q rest (a.put oi.dst v1) w1) : wpList Try.prog ops Q (oi :: rest) a W := by
  refine Kd.S_lit d (w0 := W) W.heap.size e hgd hd (xs := []) (inner := []) (ok := fun _ => True) (okp := fun _ => False) hrun (Reps.none _ _) (fun _ h => h.elim) trivial (Below.refl _ _) (Nat.le_refl _) (by simp) ?_
  intro v1 w1 hS hB _ _
  obtain ⟨ok1, h1⟩ := h.addS hB hS
  exact hk v1 w1 ok1 h1
end
section
variable {α β : Type} {d : Kd α} {d' : Kd β} {t t' : Nat} {w W W' : World} {v v' : Value} {xs : List α} {ys : List β} {L : List Ob}
/-- two made at once, that lead to nothing -/
theorem St.addRR (hE : d.E = []) (hE' : d'.E = []) (h : St w W L) (hb : Below W.heap.size W W') (hr : Kd.R d t W' W.heap.size (fun k => some k ≠ v'.ownBlock) v xs) (hr' : Kd.R d' t' W' W.heap.size (fun k => some k ≠ v.ownBlock) v' ys) : ∃ ok1 ok2, St w W' (obR d t w ok1 v xs :: obR d' t' w ok2 v' ys :: L) := by
  have hs := h.below.size
  have b1 := Kd.R_bound (Kd.R_tight hE hr)
  have b2 := Kd.R_bound (Kd.R_tight hE' hr')
  refine ⟨_, _, h.add2 (o := obR d t w (fun k => some k = v.ownBlock ∧ W.heap.size ≤ k ∧ k < W'.heap.size) v xs) (o' := obR d' t' w (fun k => some k = v'.ownBlock ∧ W.heap.size ≤ k ∧ k < W'.heap.size) v' ys) hb (fun _ hk => hk.2) ?_ firmR (fun _ hk => hk.2) ?_ firmR (fun k hk hk2 => ?_)⟩
  · exact Kd.R_mono (Kd.R_lower b1 hs) (fun k hk => ⟨hk.1, hk.2.1, hk.2.2.1⟩)
  · exact Kd.R_mono (Kd.R_lower b2 hs) (fun k hk => ⟨hk.1, hk.2.1, hk.2.2.1⟩)
  · exact hr.1 k hk.1.symm hk2.1
end
/-- a literal of elements, as an event -/
theorem lit_event {ops : Array Oper} {rest : List Oper} {oi : Oper} {a : Act} {Q : Exit → Act → World → Prop} {W : World} {N : Tmp} (hgd : oi.guard = none) (_hd : oi.dst = some N) {cs : Array Value} {t n : Nat}
    (hrun : (execOp a.eval oi).run Try.prog W = .ok (.value (.slice (some ⟨W.heap.size, 0, none⟩) n n)) (W.alloc (.cells cs t (0, 0))))
    (h : ∀ b, b = W.heap.size → ∀ w1, w1.heap[b]? = some (.cells cs t (0, 0)) → Below W.heap.size W w1 → wpList Try.prog ops Q rest (a.put oi.dst (.slice (some ⟨b, 0, none⟩) n n)) w1) : wpList Try.prog ops Q (oi :: rest) a W :=
  Kd.event_run hgd hrun (h _ rfl _ (blk_new W _) (below_alloc (Below.refl _ _) _))
/-- s[z:] of whole numbers -/
theorem cut_ints (A : Option Addr) (n c z : Nat) (h : z ≤ n) (W : World) : (Instr.slice 22 (.slice A n c) (some (.int .i64 (z : Int))) none none).run Try.prog W = .ok (.slice (if c = z then A else A.map (·.add z)) (n - z) (c - z)) W := by
  obtain ⟨i, hi, hz⟩ := Option.map_eq_some_iff.1 info3
  simp only [Prod.mk.injEq] at hz
  have := cut_from (P := Try.prog) 22 3 .i64 Try.underlying22 hi 1 hz.2.1 A n c (z : Int) (by omega) (by omega) W
  simpa using this
end Go.Proofs.Ytekjnjejgefbhaa.Q

set_option linter.unusedVariables false
set_option linter.unusedSimpArgs false
namespace Go.Proofs.Ytekjnjejgefbhaa.Q
open Go.RowKit Go.Proofs.Ytekjnjejgefbhaa.F Go.Proofs.YtekjnjejgefbhaaW.PrintWords Go.Proofs.YtekjnjejgefbhaaW.PrintLast Go.Proofs.YtekjnjejgefbhaaW.PrintMore
/-- the cells of n equal pairs -/
def pairC (x y : Int) : Nat → List Value
  | 0 => []
  | n + 1 => .int .i64 x :: .int .i64 y :: pairC x y n
theorem pairC_length (x y : Int) : ∀ n, (pairC x y n).length = 2 * n
  | 0 => rfl
  | n + 1 => by rw [pairC, List.length_cons, List.length_cons, pairC_length x y n]; omega
theorem pairC_add (x y : Int) (m : Nat) : ∀ n, pairC x y n ++ pairC x y m = pairC x y (n + m)
  | 0 => by rw [Nat.zero_add]; rfl
  | n + 1 => by rw [show n + 1 + m = (n + m) + 1 by omega, pairC, pairC, List.cons_append, List.cons_append, pairC_add x y m n]
theorem pairC_one (x y : Int) : ∀ n, ∀ v ∈ pairC x y n, v.oneCell' = true
  | 0, v, h => by simp [pairC] at h
  | n + 1, v, h => by
    rw [pairC, List.mem_cons, List.mem_cons] at h
    rcases h with rfl | rfl | h
    · rfl
    · rfl
    · exact pairC_one x y n v h
/-- the cells behind k pairs of n -/
def pairK (x y : Int) (Z : List Value) (k : Nat) : Array Value := (pairC x y k ++ Z.drop (2 * k)).toArray
theorem pairK_size {x y : Int} {Z : List Value} {k n : Nat} (hZ : Z.length = 2 * n) (hk : k ≤ n) : (pairK x y Z k).size = 2 * n := by
  simp [pairK, pairC_length]; omega
theorem pairK_get {x y : Int} {Z : List Value} {k m j : Nat} (hm : m ≤ k) {v : Value} (h : (pairC x y m)[j]? = some v) : (pairK x y Z k)[j]? = some v := by
  have hj : j < (pairC x y m).length := (List.getElem?_eq_some_iff.1 h).1
  have e : pairC x y m ++ pairC x y (k - m) = pairC x y k := by rw [pairC_add]; congr 1; omega
  rw [pairK, List.getElem?_toArray, ← e, List.append_assoc, List.getElem?_append_left hj]
  exact h
/-- m pairs more -/
theorem pairK_copy {x y : Int} {Z : List Value} {k m n : Nat} (hZ : Z.length = 2 * n) (hk : k + m ≤ n) : ((pairK x y Z k).toList.take (2 * k) ++ pairC x y m ++ (pairK x y Z k).toList.drop (2 * k + (pairC x y m).length)).toArray = pairK x y Z (k + m) := by
  have h1 : (pairK x y Z k).toList = pairC x y k ++ Z.drop (2 * k) := rfl
  rw [h1, List.take_left' (pairC_length x y k), pairC_length, List.drop_append, pairC_length, List.drop_of_length_le (by rw [pairC_length]; omega), List.nil_append, List.drop_drop, pairC_add]
  unfold pairK
  congr 3
  omega
theorem run_copy_pairs {P : Program} (w : World) (t e : TypeId) (g o dLen dCap : Nat) (ad : Addr) (sLen sCap m : Nat) (cur : Array Value) (te : TypeId) (x y : Int)
    (hu : P.underlying t = some (.slice e)) (hs : (P.info? e).map (·.size) = some 2) (hg : w.heap[g]? = some (.cells cur te (0, 0))) (hn : Nat.min sLen dLen = m)
    (hsrc : ∀ j v, (pairC x y m)[j]? = some v → w.cell? (ad.add j) = some v) (hfit : o + 2 * m ≤ cur.size) (ty : TypeId) :
    (Builtin.copy_ #[t, t] ty #[.slice (some ⟨g, o, none⟩) dLen dCap, .slice (some ad) sLen sCap]).run P w = .ok (goInt m) (w.setRow g (cur.toList.take o ++ pairC x y m ++ cur.toList.drop (o + (pairC x y m).length)).toArray) := by
  have hl := run_loadCells_list (P := P) w ad (pairC x y m) hsrc
  rw [pairC_length, Nat.mul_comm] at hl
  have hst := run_storeCells_at P g o te (pairC x y m) 0 cur w hg (by rw [pairC_length]; omega) (pairC_one x y m)
  cases hq : P.info? e with
  | none => simp [hq] at hs
  | some i =>
    have hi : i.size = 2 := by simpa [hq] using hs
    simp [Builtin.copy_, run_underlying hu, Builtin.lenOf, Builtin.firstCells, sizeOf, typeInfo, hq, hi, hn, hl, hst]
theorem copy_list {P : Program} {ops : Array Oper} {rest : List Oper} {oi : Oper} {a : Act} {Q : Exit → Act → World → Prop} {W w' : World} {v u v' : Value} (hgd : oi.guard = none) (d s : Operand) (t : TypeId)
    (ho : oi.op = .call { callee := .builtin .copy, args := #[d, s], argTypes := #[t, t] }) (hd : a.eval d = v) (hs : a.eval s = u) (hr : (Builtin.copy_ #[t, t] oi.type #[v, u]).run P W = .ok v' w') (h : wpList P ops Q rest (a.put oi.dst v') w') : wpList P ops Q (oi :: rest) a W := by
  refine wpList_plain hgd fun _ hK => ?_
  unfold Oper.wp execOp
  simp only [ho, resolve, invoke, builtin, Sem.run_bind, Sem.run_pure, Result.andThen_ok, List.map_toArray, List.map_cons, List.map_nil, hd, hs, hr]
  exact hK _ _ h
theorem copy_step {P : Program} {ops : Array Oper} {oi : Oper} {a : Act} {Q : Exit → Act → World → Prop} {Kc : Act → World → Prop} {W w' : World} {v u v' : Value} (hw : Region.wanted oi (yielded ops a.tmps) = true) (d s : Operand) (t : TypeId)
    (ho : oi.op = .call { callee := .builtin .copy, args := #[d, s], argTypes := #[t, t] }) (hd : a.eval d = v) (hs : a.eval s = u) (hr : (Builtin.copy_ #[t, t] oi.type #[v, u]).run P W = .ok v' w') (h : Kc (a.put oi.dst v') w') :
    if Region.wanted oi (yielded ops a.tmps) = true then Oper.wp P oi a W Kc Q else Kc (a.put oi.dst undef) W := by
  rw [if_pos hw]
  unfold Oper.wp execOp
  simp only [ho, resolve, invoke, builtin, Sem.run_bind, Sem.run_pure, Result.andThen_ok, List.map_toArray, List.map_cons, List.map_nil, hd, hs, hr]
  exact h
theorem bitsMul_small : ∀ n : Fin 10, bits_Mul.f 1 ((n.val : Nat) : Int) = some (0, ((n.val : Nat) : Int)) := by decide
theorem und_pairs : (Try.prog).underlying 57 = some (.slice 59) := by kernel_rfl
theorem info_pair : ((Try.prog).info? 59).map (fun i => (i.zero, i.size, i.bytes)) = some (some (.agg #[.int .i64 0, .int .i64 0]), 2, 16) := by kernel_rfl
theorem info_pair2 : ((Try.prog).info? 59).map (·.size) = some 2 := by kernel_rfl
/-- the made row of noughts -/
theorem make_pairs {oi : Oper} {a : Act} {x y : Operand} (ho : oi.op = .makeSlice 57 x y) (n : Nat) (hx : a.eval x = .int .i64 (n : Int)) (hy : a.eval y = .int .i64 (n : Int)) (hn : n ≤ 9) (W : World) :
    (execOp a.eval oi).run Try.prog W = .ok (.value (.slice (some ⟨W.heap.size, 0, none⟩) n n)) (W.alloc (.cells (madeCells #[.int .i64 0, .int .i64 0] (n * 2)) 59 (0, 0))) := by
  obtain ⟨i0, hi, hzz⟩ := Option.map_eq_some_iff.1 info_pair
  simp only [Prod.mk.injEq] at hzz
  obtain ⟨hz0, hz1, hz2⟩ := hzz
  have hr := run_make (P := Try.prog) W 57 59 i0 _ und_pairs hi hz0 .i64 .i64 (n : Int) (n : Int) (by omega) (by omega) (by rw [hz2]; omega) (by omega)
  simp only [Int.toNat_natCast] at hr
  rw [hz1] at hr
  simp [execOp, ho, hx, hy, hr]
  rfl
theorem copy_stage {W w0 : World} {B g o k m n dLen sLen sCap dCap : Nat} {x y : Int} {Z : List Value} {ad : Addr} (hg : W.heap[g]? = some (.cells (pairK x y Z k) 59 (0, 0))) (hZ : Z.length = 2 * n) (hkm : k + m ≤ n) (hmin : Nat.min sLen (n - k) = m) (ho : o = 2 * k) (hd : dLen = n - k)
    (hsrc : ∀ j v, (pairC x y m)[j]? = some v → W.cell? (ad.add j) = some v) (hB : Below B w0 W) (hBg : B ≤ g) (ty : TypeId) :
    ∃ w3, (Builtin.copy_ #[57, 57] ty #[.slice (some ⟨g, o, none⟩) dLen dCap, .slice (some ad) sLen sCap]).run Try.prog W = .ok (.int .i64 (m : Int)) w3 ∧ w3.heap[g]? = some (.cells (pairK x y Z (k + m)) 59 (0, 0)) ∧ Below B w0 w3 := by
  subst ho hd
  have h1 := run_copy_pairs (P := Try.prog) W 57 59 g (2 * k) (n - k) dCap ad sLen sCap m _ 59 x y und_pairs info_pair2 hg hmin hsrc (by rw [pairK_size hZ (by omega)]; omega) ty
  rw [pairK_copy hZ hkm] at h1
  exact ⟨_, h1, setRow_heap W g _ _ _ _ hg, below_setRow hB hBg _⟩
theorem src_one {W : World} {b : Nat} {x y : Int} (h : W.heap[b]? = some (.cells #[.int .i64 x, .int .i64 y] 59 (0, 0))) (n : Nat) : ∀ j v, (pairC x y (Nat.min 1 n))[j]? = some v → W.cell? ((⟨b, 0, none⟩ : Addr).add j) = some v := by
  intro j v hj
  have hle : Nat.min 1 n ≤ 1 := Nat.min_le_left 1 n
  rw [show (⟨b, 0, none⟩ : Addr).add j = ⟨b, j, none⟩ from by rw [add_at, Nat.zero_add], blk_cell h j]
  generalize hm : Nat.min 1 n = m at hj hle
  have h2 : m = 0 ∨ m = 1 := by omega
  rcases h2 with rfl | rfl
  · simp [pairC] at hj
  · rw [← hj]; simp [pairC]
theorem src_held {W : World} {g k m : Nat} {x y : Int} {Z : List Value} (h : W.heap[g]? = some (.cells (pairK x y Z k) 59 (0, 0))) (hm : m ≤ k) : ∀ j v, (pairC x y m)[j]? = some v → W.cell? ((⟨g, 0, none⟩ : Addr).add j) = some v := by
  intro j v hj
  rw [show (⟨g, 0, none⟩ : Addr).add j = ⟨g, j, none⟩ from by rw [add_at, Nat.zero_add], blk_cell h j]
  exact pairK_get hm hj
set_option maxHeartbeats 4000000 in
set_option maxRecDepth 100000 in
theorem repeat_calls (b : Nat) (x y : Int) (n : Nat) (w : World) (hn : n ≤ 9) (hb : w.heap[b]? = some (.cells #[.int .i64 x, .int .i64 y] 59 (0, 0))) :
    Calls Try.prog 72 #[.slice (some ⟨b, 0, none⟩) 1 1, .int .i64 (n : Int)] w fun e w' => ∃ g, e = .returned (.slice (some ⟨g, 0, none⟩) n n) ∧ w'.heap[g]? = some (.cells (pairC x y n).toArray 59 (0, 0)) ∧ g = w.heap.size ∧ Below w.heap.size w w' := by
  have HM : Aside0 (bits_Mul.f 1 (n : Int) = some (0, (n : Int))) := ⟨bitsMul_small ⟨n, by omega⟩⟩
  have HB := Aside0.mk hb
  have hneg : decide ((n : Int) < 0) = false := decide_eq_false (by omega)
  have hwn : IntKind.u64.wrap (n : Int) = (n : Int) := by unfold IntKind.wrap; simp [IntKind.bits, IntKind.signed]; omega
  have hlo : decide (9223372036854775807 < (n : Int)) = false := decide_eq_false (by omega)
  have hwi : IntKind.i64.wrap (n : Int) = (n : Int) := IntWalk.i64_in _ (by omega)
  obtain ⟨k0, hk0⟩ : ∃ k0, k0 = Nat.min 1 n := ⟨_, rfl⟩
  have K0 : Aside0 (k0 ≤ n ∧ (0 < n → 0 < k0) ∧ Nat.min 1 (n - 0) = k0) := ⟨by rw [hk0]; exact ⟨Nat.min_le_right 1 n, fun h => by rw [show Nat.min 1 n = 1 from Nat.min_eq_left h]; decide, rfl⟩⟩
  have hk0n := K0.out.1
  clear hb hk0
  go_enter Try.func72, Try.ntmps72
  go_wp2_with (first
    | (go_at_call 75; refine (bits_Mul.calls 1 (n : Int) 0 (n : Int) _ HM.out).mono ?_; rintro e w1 ⟨rfl, hd⟩; have D1 := Aside0.mk hd; clear hd)
    | ((with_reducible refine gate_dst (N := 30) rfl ?_); refine lit_event ?hg (N := 30) ?hd (cs := madeCells #[.int .i64 0, .int .i64 0] (n * 2)) (t := 59) (n := n) ?hr ?_; (case hd => rfl); (case hg => rfl); (case hr => exact make_pairs rfl n rfl rfl hn _); intro g hg w2 hx2 hl2; obtain ⟨Z, hZ⟩ : ∃ Z, Z = (madeCells #[.int .i64 0, .int .i64 0] (n * 2)).toList := ⟨_, rfl⟩; have hZl : Z.length = 2 * n := (by rw [hZ, Array.length_toList, size_madeCells]; omega); have hx3 : w2.heap[g]? = some (.cells (pairK x y Z 0) 59 (0, 0)) := (by rw [hx2, hZ]; simp [pairK, pairC]); have D1' := D1.out.below; have hlt1 := blk_lt HB.out; have hsz1 : w.heap.size ≤ g := (by rw [hg]; exact D1'.size); have hL2 : Below w.heap.size w w2 := D1'.trans (hl2.mono D1'.size); have hb2 : w2.heap[b]? = some (.cells #[.int .i64 x, .int .i64 y] 59 (0, 0)) := (hL2.block b hlt1).trans HB.out; have hg0 : g = w.heap.size := (by rw [hg]; obtain ⟨q_, hq_⟩ := D1.out; rw [hq_]; rfl); obtain ⟨w3, hr3, hx4, hL3⟩ := copy_stage (m := k0) (dLen := n) (sLen := 1) (sCap := 1) (dCap := n) (ad := ⟨b, 0, none⟩) (o := 0) hx3 hZl (by rw [Nat.zero_add]; omega) K0.out.2.2 rfl rfl (by rw [K0.out.2.2.symm]; exact src_one hb2 n) hL2 hsz1 3; have X3 := Aside0.mk hx4; have L3 := Aside0.mk hL3; have HZ := Aside0.mk hZl; have G0 := Aside0.mk hg0; clear hg hZ hx2 hx3 hl2 hL2 hb2 hx4 hL3 hZl D1' hlt1 hsz1 hg0))
  rw [Nat.zero_add] at X3
  go_loopg [8] n (fun kq v8 wr => ∃ k : Nat, k ≤ n ∧ (0 < n → 0 < k) ∧ n - k ≤ kq ∧ v8 = .int .i64 (k : Int) ∧ Aside0 (wr.heap[g]? = some (.cells (pairK x y Z k) 59 (0, 0))) ∧ Aside0 (Below w.heap.size w wr))
  case atStart => exact ⟨k0, hk0n, K0.out.2.1, by omega, rfl, X3, L3⟩
  case round =>
    clear X3 L3 hk0n
    obtain ⟨k, hkn, hk0, hg, rfl, X, L⟩ := hrel
    by_cases hlt : k < n
    · have hltz : (k : Int) < (n : Int) := by omega
      have hlez : (k : Int) ≤ (n : Int) := by omega
      have hk1 := hk0 (by omega)
      obtain ⟨m, hm, hm0, hmk, hmn⟩ : ∃ m, Nat.min k (n - k) = m ∧ 0 < m ∧ m ≤ k ∧ k + m ≤ n := by
        rcases Nat.le_total k (n - k) with h | h
        · exact ⟨k, Nat.min_eq_left h, hk1, Nat.le_refl k, by omega⟩
        · exact ⟨n - k, Nat.min_eq_right h, by omega, h, by omega⟩
      have hx := blk_drew X.out
      obtain ⟨w4, hr4, hx4, hL4⟩ := copy_stage (m := m) (dLen := n - k) (sLen := k) (sCap := n) (dCap := n - k) (ad := ⟨g, 0, none⟩) (o := k * 2) hx HZ.out hmn hm (Nat.mul_comm _ _) rfl (src_held hx hmk) (below_drew L.out) (by rw [G0.out]; exact Nat.le_refl _) 3
      have X4 := Aside0.mk hx4
      have L4 := Aside0.mk hL4
      clear hm hx hx4 hL4 X L hk0
      go_wp2
      go_region
      go_wp2
      go_roundg (n - (k + m))
      case measure => omega
      case rel => exact ⟨k + m, hmn, by omega, by omega, by go_num, X4, L4⟩
    · have hkn2 : k = n := by omega
      subst hkn2
      have hltz : ¬ (k : Int) < (k : Int) := by omega
      have e : pairK x y Z k = (pairC x y k).toArray := by
        unfold pairK
        rw [List.drop_of_length_le (by rw [HZ.out]; exact Nat.le_refl _), List.append_nil]
      have X5 := X.out
      rw [e] at X5
      have X6 := Aside0.mk X5
      clear X X5 e hlt
      go_wp2
      go_ret
      exact ⟨g, by simp, X6.out, G0.out, L.out⟩
end Go.Proofs.Ytekjnjejgefbhaa.Q

set_option linter.unusedVariables false
set_option linter.unusedSimpArgs false
namespace Go.Proofs.Ytekjnjejgefbhaa.Q
open Go.RowKit Go.Proofs.Ytekjnjejgefbhaa.F Go.Proofs.YtekjnjejgefbhaaW.PrintWords Go.Proofs.YtekjnjejgefbhaaW.PrintLast Go.Proofs.YtekjnjejgefbhaaW.PrintMore
/-- the kind of pairs of whole numbers -/
def pairKd : Kd (Int × Int) where
  sz := 2
  E := []
  K := fun _ p cs => cs = [.int .i64 p.1, .int .i64 p.2]
  M := fun _ _ _ p cs => cs = [.int .i64 p.1, .int .i64 p.2]
  K_len := by
    rintro w x cs rfl
    rfl
  K_one := by
    rintro w x cs rfl u hu
    simp only [List.mem_cons, List.not_mem_nil, or_false] at hu
    rcases hu with rfl | rfl <;> rfl
  K_below := by
    rintro w w1 x cs hb h
    exact h
  K_of_M := by
    rintro w base ok x cs h
    exact h
  M_mono := by
    rintro w base ok ok' x cs hok h
    exact h
  M_bound := by
    rintro w base ok x cs h
    exact h
  M_move := by
    rintro w w1 base ok x cs hm h
    exact h
  M_lower := by
    rintro w base base' ok x cs hb h
    exact h
theorem pairC_at (x y : Int) : ∀ (n j : Nat), j < n → (pairC x y n)[j * 2]? = some (.int .i64 x) ∧ (pairC x y n)[j * 2 + 1]? = some (.int .i64 y)
  | 0, j, h => by omega
  | n + 1, 0, _ => by simp [pairC]
  | n + 1, j + 1, h => by
    have := pairC_at x y n j (by omega)
    rw [show (j + 1) * 2 = j * 2 + 1 + 1 by omega]
    simpa [pairC] using this
theorem rep_C {W : World} {g : Nat} {x y : Int} {n : Nat} (h : W.heap[g]? = some (.cells (pairC x y n).toArray 59 (0, 0))) (hn : n ≤ 9) : Kd.C pairKd W (some ⟨g, 0, none⟩) n (List.replicate n (x, y)) := by
  refine ⟨List.length_replicate, by omega, fun _ => ⟨_, rfl, fun j p hj => ⟨[.int .i64 p.1, .int .i64 p.2], rfl, rfl, fun i u hu => ?_⟩⟩⟩
  have hjl : j < n := by
    have := (List.getElem?_eq_some_iff.1 hj).1
    rwa [List.length_replicate] at this
  obtain rfl : (x, y) = p := by
    rw [List.getElem?_replicate, if_pos hjl] at hj
    exact Option.some.inj hj
  obtain ⟨h1, h2⟩ := pairC_at x y n j hjl
  rw [add_at, Nat.zero_add, blk_cell h]
  show (pairC x y n).toArray[j * 2 + i]? = some u
  rw [List.getElem?_toArray]
  match i, hu with
  | 0, hu => rw [Nat.add_zero, h1]; simpa using hu
  | 1, hu => rw [h2]; simpa using hu
section
variable {ops : Array Oper} {rest : List Oper} {oi : Oper} {a : Act} {Q : Exit → Act → World → Prop} {w W : World} {L : List Ob} {ok : Nat → Prop} {v : Value} {xs ys : List (Int × Int)}
theorem St.litP {N : Tmp} (hgd : oi.guard = none) (hd : oi.dst = some N) (hrun : (execOp a.eval oi).run Try.prog W = .ok (.value (.slice (some ⟨W.heap.size, 0, none⟩) 0 0)) (W.alloc (.cells #[] 59))) (h : St w W L)
    (hk : ∀ v1 w1 ok1, St w w1 (obR pairKd 59 w ok1 v1 [] :: L) → wpList Try.prog ops Q rest (a.put oi.dst v1) w1) : wpList Try.prog ops Q (oi :: rest) a W := by
  refine Kd.R_lit pairKd (w0 := W) W.heap.size 59 hgd hd (xs := []) (inner := []) (ok := fun _ => True) (okp := fun _ => False) hrun (Reps.none _ _) (fun _ h => h.elim) trivial (Below.refl _ _) (Nat.le_refl _) (by simp) ?_
  intro v1 w1 hR hB _ _
  obtain ⟨ok1, h1⟩ := h.addR hB hR
  exact hk v1 w1 ok1 h1
theorem St.putRows {A : Option Addr} {m cA : Nat} (hgd : oi.guard = none) (s y : Operand) (ho : oi.op = .call { callee := .builtin .append, args := #[s, y], argTypes := #[57, 57] })
    (h : St w W L) (n : Nat) (hn : L[n]? = some (obR pairKd 59 w ok v xs)) (hs : a.eval s = v) (hx : a.eval y = .slice A m cA) (HR : Kd.C pairKd W A m ys) (hl : (xs.length + m) * 16 ≤ 140737488355328)
    (hk : ∀ v1 w1 ok1, St w w1 (L.set n (obR pairKd 59 w ok1 v1 (xs ++ ys))) → wpList Try.prog ops Q rest (a.put oi.dst v1) w1) :
    wpList Try.prog ops Q (oi :: rest) a W := by
  have hR : Kd.R pairKd 59 W w.heap.size ok v xs := h.get n hn
  refine Kd.R_append_rows pairKd (Rr := pairKd.K W) (w0 := w) w.heap.size hgd s y 57 59 (.agg #[.int .i64 0, .int .i64 0]) 16 ho und_pairs info_pair rfl (by decide) (by omega) v xs ys A m cA (fun k => ok k ∨ W.heap.size ≤ k) (fun _ => False) hs hx (Kd.R_mono hR (fun k hk => .inl hk)) HR (fun _ _ h => h) (fun _ h => h.elim) (fun _ h => .inr h) h.below h.below.size hl ?_
  intro v1 w1 hR1 hB hg _
  exact hk v1 w1 _ (St.redo1 (o' := obR pairKd 59 w (fun k => (ok k ∨ W.heap.size ≤ k) ∧ w.heap.size ≤ k ∧ k < w1.heap.size) v1 (xs ++ ys)) h n hn ⟨hg.size, fun k hk hne => hg.block k hk (fun e2 => hne (hR.1 k e2.symm))⟩ hB ⟨fun k hk => hk, Kd.R_mono (Kd.R_bound hR1) (fun k hk => ⟨hk.1, hk.2.1, hk.2.2.1⟩), firmR⟩)
end
set_option maxHeartbeats 8000000 in
set_option maxRecDepth 100000 in
theorem pairsOf_calls (A0 : Option Addr) (c0 : Nat) (m : List (List Int)) (w : World) (hr0 : Kd.C (Kd.slice 3 (Kd.int .i64)) w A0 m.length m) (hc0 : m.length ≤ c0) (hM : IsMat m) :
    Calls Try.prog 68 #[.slice A0 m.length c0] w fun e w' => ∃ v, e = .returned v ∧ Kd.R pairKd 59 w' w.heap.size (fun _ => True) v (matPairs m 0) ∧ Below w.heap.size w w' := by
  have C0 := Aside0.mk hr0
  have HM := Aside0.mk hM
  have hm9 := hM.1
  have H0 := Aside0.mk (St.start w)
  clear hr0 hM
  go_enter Try.func68, Try.ntmps68
  go_wp2_with ((with_reducible refine gate_dst (N := 8) rfl ?_); refine St.litP (N := 8) rfl rfl ?hr H0.out ?_; (case hr => first | (go_simp; done) | (go_simp; rfl)); intro v3 w3 ok3 h_; have H3 := Aside0.mk h_; clear h_)
  go_loopg [3, 11] m.length (fun kq v3 v11 wr => ∃ (i : Nat) (out : List (Int × Int)) (ok : Nat → Prop), i ≤ m.length ∧ m.length - i ≤ kq ∧ v11 = .int .i64 (i : Int) ∧ Aside0 (out ++ matPairs (m.drop i) i = matPairs m 0) ∧ Aside0 (out.length ≤ 81 * i) ∧ Aside0 (St w wr [obR pairKd 59 w ok v3 out]))
  case atStart => exact ⟨0, [], ok3, Nat.zero_le _, by omega, rfl, ⟨by rw [List.drop_zero]; rfl⟩, ⟨by simp⟩, H3⟩
  case round =>
    clear H0 H3
    obtain ⟨i, out, ok, hi, hg, rfl, HE, HL, HS⟩ := hrel
    by_cases hlt : i < m.length
    · have hltz : (i : Int) < (m.length : Int) := by omega
      obtain ⟨ad, Ar, cr, e, hxw, hl, hiw⟩ := at_L1 C0.out (i : Int) (by omega) hltz
      subst e
      have hx := pw_cell_below HS.out.below hxw
      rw [Int.toNat_natCast] at hx
      obtain ⟨row, hrw⟩ : ∃ q, q = rd_L1 m (i : Int) := ⟨_, rfl⟩
      rw [← hrw] at hx hl hiw
      have hrow := HM.out.2.1 m[i] (List.getElem_mem hlt)
      rw [← rows_eq m i hlt, ← hrw] at hrow
      have h9 := hrow.2.1
      have HX9 := Aside0.mk hrow.2.2
      have CR := Aside0.mk hiw
      have E1 : Aside0 (out ++ rowPairs i (row.drop 0) 0 ++ matPairs (m.drop (i + 1)) (i + 1) = matPairs m 0) := ⟨by rw [← HE.out, matPairs_drop m i hlt, List.drop_zero, ← rows_eq m i hlt, ← hrw, List.append_assoc]⟩
      have hL0 := HL.out
      have HL0 := Aside0.mk (show out.length ≤ 81 * i + 9 * 0 by omega)
      clear hxw hrw hrow hiw HE HL hL0
      go_wp2
      go_loopg [3, 18] row.length (fun kq v3 v18 wr => ∃ (j : Nat) (out : List (Int × Int)) (ok : Nat → Prop), j ≤ row.length ∧ row.length - j ≤ kq ∧ v18 = .int .i64 (j : Int) ∧ Aside0 (out ++ rowPairs i (row.drop j) j ++ matPairs (m.drop (i + 1)) (i + 1) = matPairs m 0) ∧ Aside0 (out.length ≤ 81 * i + 9 * j) ∧ Aside0 (St w wr [obR pairKd 59 w ok v3 out]))
      case atStart => exact ⟨0, out, ok, Nat.zero_le _, by omega, rfl, E1, HL0, HS⟩
      case round =>
        clear hx E1 HL0 HS
        obtain ⟨j, out, ok, hj, hg2, rfl, HE, HL, HS⟩ := hrel
        by_cases hlt2 : j < row.length
        · have hltz2 : (j : Int) < (row.length : Int) := by omega
          obtain ⟨ad2, e, hxw⟩ := Kd.at_int CR.out (j : Int) (by omega) hltz2
          subst e
          have hx := pw_cell_below HS.out.below hxw
          rw [Int.toNat_natCast] at hx
          have hb := HX9.out _ (rd_mem row j hlt2)
          obtain ⟨n, hn⟩ : ∃ n : Nat, rd row (j : Int) = (n : Int) := ⟨(rd row (j : Int)).toNat, by omega⟩
          rw [hn] at hx hb
          have hn9 : n ≤ 9 := by omega
          have E2 : Aside0 (out ++ List.replicate n ((i : Int) + 1, (j : Int) + 1) ++ rowPairs i (row.drop (j + 1)) (j + 1) ++ matPairs (m.drop (i + 1)) (i + 1) = matPairs m 0) := ⟨by
            rw [← HE.out, rowPairs_drop i row j hlt2, hn, Int.toNat_natCast, Int.natCast_add, Int.natCast_add, Int.natCast_one]
            simp only [List.append_assoc]⟩
          have hll : out.length ≤ 1000 := by have := HL.out; omega
          have HLL := Aside0.mk hll
          clear hxw hn hb HE hll
          go_wp2_with (first
            | ((with_reducible refine gate_dst (N := 29) rfl ?_); refine lit_event (N := 29) rfl rfl (cs := #[.int .i64 ((i : Int) + 1), .int .i64 ((j : Int) + 1)]) (t := 59) (n := 1) ?hr ?_; (case hr => first | (go_simp; done) | (go_simp; rfl)); intro b4 hb4 w4 hx4 hl4; have H4 := Aside0.mk (St.addB HS.out hx4 hb4 hl4); clear hx4 hl4 hb4)
            | (go_at_call 72; (with_reducible refine (repeat_calls b4 ((i : Int) + 1) ((j : Int) + 1) n _ hn9 (St.heapB H4.out 0 rfl)).mono ?_); rintro e w5 ⟨g5, rfl, hx5, hg5, hl5⟩; have H5 := Aside0.mk (St.addB H4.out hx5 hg5 hl5); clear hx5 hg5 hl5)
            | (at_builtin; refine St.putRows rfl (.tmp 23) (.tmp 31) rfl H5.out 2 rfl rfl rfl (rep_C (St.heapB H5.out 0 rfl) hn9) (by have := HLL.out; omega) ?_; intro v6 w6 ok6 h_; have H6 := Aside0.mk (St.less h_ (.cons _ (.cons _ (.cons_cons _ .slnil)))); clear h_))
          go_roundg (row.length - (j + 1))
          case measure => omega
          case rel => exact ⟨j + 1, _, ok6, by omega, by omega, by go_num, E2, ⟨by rw [List.length_append, List.length_replicate]; have := HL.out; omega⟩, H6⟩
        · have hj2 : j = row.length := by omega
          subst hj2
          have hltz2 : ¬ (row.length : Int) < (row.length : Int) := by omega
          have E3 : Aside0 (out ++ matPairs (m.drop (i + 1)) (i + 1) = matPairs m 0) := ⟨by
            have := HE.out
            rwa [List.drop_length, rowPairs, List.append_nil] at this⟩
          clear HE hlt2
          go_wp2
          go_roundg (m.length - (i + 1))
          case measure => omega
          case rel => exact ⟨i + 1, out, ok, by omega, by omega, by go_num, E3, ⟨by have := HL.out; omega⟩, HS⟩
    · have hi2 : i = m.length := by omega
      subst hi2
      have hltz : ¬ (m.length : Int) < (m.length : Int) := by omega
      have E4 := HE.out
      rw [List.drop_length, matPairs, List.append_nil] at E4
      have E5 := Aside0.mk E4
      clear E4 HE hlt
      go_wp2
      go_ret
      refine ⟨_, rfl, ?_, HS.out.below⟩
      rw [← E5.out]
      exact Kd.R_mono (HS.out.get 0 rfl) (fun _ _ => trivial)
end Go.Proofs.Ytekjnjejgefbhaa.Q

set_option linter.unusedVariables false
set_option linter.unusedSimpArgs false
namespace Go.Proofs.Ytekjnjejgefbhaa.Q
open Go.RowKit Go.Proofs.Ytekjnjejgefbhaa.F Go.Proofs.YtekjnjejgefbhaaW.PrintWords Go.Proofs.YtekjnjejgefbhaaW.PrintLast Go.Proofs.YtekjnjejgefbhaaW.PrintMore
section
variable {ops : Array Oper} {rest : List Oper} {oi : Oper} {a : Act} {Q : Exit → Act → World → Prop} {w W : World} {L : List Ob} {v : Value} {m : List (List Int)}
theorem St.litI {N : Tmp} (hgd : oi.guard = none) (hd : oi.dst = some N) (hrun : (execOp a.eval oi).run Try.prog W = .ok (.value (.slice (some ⟨W.heap.size, 0, none⟩) 0 0)) (W.alloc (.cells #[] 3))) (h : St w W L)
    (hk : ∀ v1 w1 ok1, St w w1 (obR (Kd.int .i64) 3 w ok1 v1 [] :: L) → wpList Try.prog ops Q rest (a.put oi.dst v1) w1) : wpList Try.prog ops Q (oi :: rest) a W := by
  refine Kd.R_lit (Kd.int .i64) (w0 := W) W.heap.size 3 hgd hd (xs := []) (inner := []) (ok := fun _ => True) (okp := fun _ => False) hrun (Reps.none _ _) (fun _ h => h.elim) trivial (Below.refl _ _) (Nat.le_refl _) (by simp) ?_
  intro v1 w1 hR hB _ _
  obtain ⟨ok1, h1⟩ := h.addR hB hR
  exact hk v1 w1 ok1 h1
theorem isMat_st {b : Bool} (h : St w W L) (hr : Reads (Kd.slice 3 (Kd.int .i64)) W v m) (hb : decide (IsMat m) = b) :
    Calls Try.prog 21 #[v] W fun e W' => e = .returned (.bool b) ∧ St w W' L := by
  obtain ⟨A, c, rfl, hc, hC⟩ := hr
  obtain ⟨K, hK⟩ := ev_eq (impl_IsMatrix_ev m) hb
  refine (impl_IsMatrix.calls K A c m b W hC hc (hK K (Nat.le_refl _))).mono ?_
  rintro e W' ⟨rfl, hd⟩
  exact ⟨rfl, h.drawn hd⟩
theorem pairsOf_st (h : St w W L) (hr : Reads (Kd.slice 3 (Kd.int .i64)) W v m) (hM : IsMat m) {X : List (Int × Int)} (hX : matPairs m 0 = X) :
    Calls Try.prog 68 #[v] W fun e W' => ∃ u ok, e = .returned u ∧ St w W' (obR pairKd 59 w ok u X :: L) := by
  subst hX
  obtain ⟨A, c, rfl, hc, hC⟩ := hr
  refine (pairsOf_calls A c m W hC hc hM).mono ?_
  rintro e W' ⟨u, rfl, hR, hB⟩
  obtain ⟨ok, h1⟩ := h.addR hB hR
  exact ⟨u, ok, rfl, h1⟩
end
theorem pair_cells {W : World} {A : Option Addr} {n : Nat} {X : List (Int × Int)} (h : Kd.C pairKd W A n X) (j : Nat) (hj : j < X.length) : ∃ ad, A = some ad ∧ W.cell? (ad.add (j * 2)) = some (.int .i64 X[j].1) ∧ W.cell? (ad.add (j * 2 + 1)) = some (.int .i64 X[j].2) := by
  obtain ⟨hl, _, h2⟩ := h
  obtain ⟨ad, e, h3⟩ := h2 (by omega)
  obtain ⟨cs, _, hcs, h4⟩ := h3 j X[j] (List.getElem?_eq_getElem hj)
  obtain rfl : cs = [.int .i64 X[j].1, .int .i64 X[j].2] := hcs
  exact ⟨ad, e, h4 0 _ rfl, h4 1 _ rfl⟩
set_option maxHeartbeats 8000000 in
set_option maxRecDepth 100000 in
theorem wordOf_callsT (A0 : Option Addr) (c0 : Nat) (m : List (List Int)) (w : World) (hr0 : Kd.C (Kd.slice 3 (Kd.int .i64)) w A0 m.length m) (hc0 : m.length ≤ c0) :
    Calls Try.prog 59 #[.slice A0 m.length c0, .int .i64 0] w fun e w' => ∃ v, e = .returned v ∧ Kd.R (Kd.int .i64) 3 w' w.heap.size (fun _ => True) v (matWord true m) ∧ Below w.heap.size w w' := by
  have C0 := Aside0.mk hr0
  have H0 := Aside0.mk (St.start w)
  clear hr0
  by_cases hM : IsMat m
  case neg =>
    have HD := Aside0.mk (decide_eq_false hM)
    have HE := Aside0.mk (show matWord true m = [] by unfold matWord; rw [if_neg hM])
    clear hM
    go_enter Try.func59, Try.ntmps59
    go_wp2_with (go_at_call 21; (with_reducible refine (isMat_st H0.out (H0.out.came C0.out hc0) HD.out).mono ?_); rintro e w1 ⟨rfl, h_⟩; have H1 := Aside0.mk h_; clear h_)
    go_ret
    refine ⟨_, rfl, ?_, H1.out.below⟩
    rw [HE.out]
    exact Kd.R_nil _ _ _ _ _
  have HD := Aside0.mk (decide_eq_true hM)
  have HM := Aside0.mk hM
  obtain ⟨X, hX⟩ : ∃ X, matPairs m 0 = X := ⟨_, rfl⟩
  have HE := Aside0.mk (show matWord true m = selW true X by unfold matWord; rw [if_pos hM, hX])
  have hXl : X.length ≤ 1000 := by
    have h1 := matPairs_bd m 0 (fun r hr => ⟨(hM.2.1 r hr).2.1, fun x hx => ((hM.2.1 r hr).2.2 x hx).2⟩)
    have := hM.1
    rw [← hX]
    omega
  have HX := Aside0.mk hX
  clear hM hX
  go_enter Try.func59, Try.ntmps59
  go_wp2_with (first
    | (go_at_call 21; (with_reducible refine (isMat_st H0.out (H0.out.came C0.out hc0) HD.out).mono ?_); rintro e w1 ⟨rfl, h_⟩; have H1 := Aside0.mk h_; clear h_)
    | ((with_reducible refine gate_dst (N := 11) rfl ?_); refine St.litI (N := 11) rfl rfl ?hr H1.out ?_; (case hr => first | (go_simp; done) | (go_simp; rfl)); intro v2 w2 ok2 h_; have H2 := Aside0.mk h_; clear h_)
    | (go_at_call 68; (with_reducible refine (pairsOf_st H2.out (H2.out.came C0.out hc0) HM.out HX.out).mono ?_); rintro e w3 ⟨v3, ok3, rfl, h_⟩; have H3 := Aside0.mk h_; clear h_; obtain ⟨Ap, cp, rfl, _, _⟩ := H3.out.readR 0 rfl))
  go_loopg [5, 15] X.length (fun kq v5 v15 wr => ∃ (j : Nat) (ok okp : Nat → Prop), j ≤ X.length ∧ X.length - j ≤ kq ∧ v15 = .int .i64 (j : Int) ∧ Aside0 (St w wr [obR pairKd 59 w okp (.slice Ap X.length cp) X, obR (Kd.int .i64) 3 w ok v5 (selW true (X.take j))]))
  case atStart => exact ⟨0, ok2, ok3, Nat.zero_le _, by omega, rfl, ⟨by rw [List.take_zero]; exact H3.out⟩⟩
  case round =>
    clear H0 H1 H2 H3
    obtain ⟨j, ok, okp, hj, hg, rfl, HS⟩ := hrel
    by_cases hlt : j < X.length
    · have hltz : (j : Int) < (X.length : Int) := by omega
      obtain ⟨ad, e, hx, hy⟩ := pair_cells (Reads.C (HS.out.readR 0 rfl)).2 j hlt
      obtain ⟨g, c2, e0, _⟩ := Kd.R_form (HS.out.get 0 rfl) (by omega)
      injection e0 with ea e1_ e2_
      clear e1_ e2_
      subst ea
      injection e with e
      subst e
      rw [add_at, Nat.zero_add] at hx hy
      obtain ⟨p, hp⟩ : ∃ p, p = X[j] := ⟨_, rfl⟩
      rw [← hp] at hx hy
      obtain ⟨px, py⟩ := p
      have hE : selW true (X.take j) ++ [px] = selW true (X.take (j + 1)) := by rw [List.take_succ_eq_append_getElem hlt, selW_append, ← hp]; rfl
      have HE2 := Aside0.mk hE
      have hlen : (selW true (X.take j)).length ≤ 1000 := by unfold selW; rw [List.length_map, List.length_take]; omega
      have HLEN := Aside0.mk hlen
      simp only at hx hy
      clear hE hp hlen
      go_wp2_with (first
        | ((with_reducible refine gate_dst (N := 7) rfl ?_); refine zX (N := 7) (cs := #[.int .i64 0, .int .i64 0]) (t := 59) ?_; intro b7 hb7 wb7 hxb7 hlb7; have H7 := Aside0.mk (St.addB HS.out hxb7 hb7 hlb7); have z0 : wb7.cell? ⟨b7, 0, none⟩ = some (.int .i64 0) := St.cellB H7.out 0 rfl 0 rfl; have z1 : wb7.cell? ⟨b7, 1, none⟩ = some (.int .i64 0) := St.cellB H7.out 0 rfl 1 rfl; have f0 := blk_frozen (St.heapB H7.out 0 rfl) 0; have f1 := blk_frozen (St.heapB H7.out 0 rfl) 1; have H8 := Aside0.mk (St.putB (St.putB H7.out 0 rfl 0 (.int .i64 px) rfl) 0 rfl 1 (.int .i64 py) rfl); clear hxb7 hb7 hlb7)
        | (at_builtin; refine St.put1 (x := px) (bb := 0) (c := 0) rfl (.tmp 19) (.tmp 23) rfl H8.out 2 rfl rfl ?sX (by have := HLEN.out; omega) ?_; (case sX => (have e_ : ((wb7.setCell ⟨b7, 0, none⟩ (.int .i64 px)).setCell ⟨b7, 1, none⟩ (.int .i64 py)).heap.size = wb7.heap.size := (by simp [World.setCell]); rw [e_]; rfl)); intro v9 w9 ok9 h_; have H9 := Aside0.mk (St.less h_ (.cons _ (.cons_cons _ (.cons_cons _ .slnil)))); clear h_))
      go_roundg (X.length - (j + 1))
      case measure => omega
      case rel => exact ⟨j + 1, ok9, okp, by omega, by omega, by go_num, ⟨by rw [← HE2.out]; exact H9.out⟩⟩
    · have hj2 : j = X.length := by omega
      subst hj2
      have hltz : ¬ (X.length : Int) < (X.length : Int) := by omega
      go_wp2
      go_ret
      refine ⟨_, rfl, ?_, HS.out.below⟩
      rw [HE.out]
      have := HS.out.get 1 rfl
      rw [List.take_length] at this
      exact Kd.R_mono this (fun _ _ => trivial)
set_option maxHeartbeats 8000000 in
set_option maxRecDepth 100000 in
theorem wordOf_callsB (A0 : Option Addr) (c0 : Nat) (m : List (List Int)) (w : World) (hr0 : Kd.C (Kd.slice 3 (Kd.int .i64)) w A0 m.length m) (hc0 : m.length ≤ c0) :
    Calls Try.prog 59 #[.slice A0 m.length c0, .int .i64 1] w fun e w' => ∃ v, e = .returned v ∧ Kd.R (Kd.int .i64) 3 w' w.heap.size (fun _ => True) v (matWord false m) ∧ Below w.heap.size w w' := by
  have C0 := Aside0.mk hr0
  have H0 := Aside0.mk (St.start w)
  clear hr0
  by_cases hM : IsMat m
  case neg =>
    have HD := Aside0.mk (decide_eq_false hM)
    have HE := Aside0.mk (show matWord false m = [] by unfold matWord; rw [if_neg hM])
    clear hM
    go_enter Try.func59, Try.ntmps59
    go_wp2_with (go_at_call 21; (with_reducible refine (isMat_st H0.out (H0.out.came C0.out hc0) HD.out).mono ?_); rintro e w1 ⟨rfl, h_⟩; have H1 := Aside0.mk h_; clear h_)
    go_ret
    refine ⟨_, rfl, ?_, H1.out.below⟩
    rw [HE.out]
    exact Kd.R_nil _ _ _ _ _
  have HD := Aside0.mk (decide_eq_true hM)
  have HM := Aside0.mk hM
  obtain ⟨X, hX⟩ : ∃ X, matPairs m 0 = X := ⟨_, rfl⟩
  have HE := Aside0.mk (show matWord false m = selW false X by unfold matWord; rw [if_pos hM, hX])
  have hXl : X.length ≤ 1000 := by
    have h1 := matPairs_bd m 0 (fun r hr => ⟨(hM.2.1 r hr).2.1, fun x hx => ((hM.2.1 r hr).2.2 x hx).2⟩)
    have := hM.1
    rw [← hX]
    omega
  have HX := Aside0.mk hX
  clear hM hX
  go_enter Try.func59, Try.ntmps59
  go_wp2_with (first
    | (go_at_call 21; (with_reducible refine (isMat_st H0.out (H0.out.came C0.out hc0) HD.out).mono ?_); rintro e w1 ⟨rfl, h_⟩; have H1 := Aside0.mk h_; clear h_)
    | ((with_reducible refine gate_dst (N := 11) rfl ?_); refine St.litI (N := 11) rfl rfl ?hr H1.out ?_; (case hr => first | (go_simp; done) | (go_simp; rfl)); intro v2 w2 ok2 h_; have H2 := Aside0.mk h_; clear h_)
    | (go_at_call 68; (with_reducible refine (pairsOf_st H2.out (H2.out.came C0.out hc0) HM.out HX.out).mono ?_); rintro e w3 ⟨v3, ok3, rfl, h_⟩; have H3 := Aside0.mk h_; clear h_; obtain ⟨Ap, cp, rfl, _, _⟩ := H3.out.readR 0 rfl))
  go_loopg [5, 15] X.length (fun kq v5 v15 wr => ∃ (j : Nat) (ok okp : Nat → Prop), j ≤ X.length ∧ X.length - j ≤ kq ∧ v15 = .int .i64 (j : Int) ∧ Aside0 (St w wr [obR pairKd 59 w okp (.slice Ap X.length cp) X, obR (Kd.int .i64) 3 w ok v5 (selW false (X.take j))]))
  case atStart => exact ⟨0, ok2, ok3, Nat.zero_le _, by omega, rfl, ⟨by rw [List.take_zero]; exact H3.out⟩⟩
  case round =>
    clear H0 H1 H2 H3
    obtain ⟨j, ok, okp, hj, hg, rfl, HS⟩ := hrel
    by_cases hlt : j < X.length
    · have hltz : (j : Int) < (X.length : Int) := by omega
      obtain ⟨ad, e, hx, hy⟩ := pair_cells (Reads.C (HS.out.readR 0 rfl)).2 j hlt
      obtain ⟨g, c2, e0, _⟩ := Kd.R_form (HS.out.get 0 rfl) (by omega)
      injection e0 with ea e1_ e2_
      clear e1_ e2_
      subst ea
      injection e with e
      subst e
      rw [add_at, Nat.zero_add] at hx hy
      obtain ⟨p, hp⟩ : ∃ p, p = X[j] := ⟨_, rfl⟩
      rw [← hp] at hx hy
      obtain ⟨px, py⟩ := p
      have hE : selW false (X.take j) ++ [py] = selW false (X.take (j + 1)) := by rw [List.take_succ_eq_append_getElem hlt, selW_append, ← hp]; rfl
      have HE2 := Aside0.mk hE
      have hlen : (selW false (X.take j)).length ≤ 1000 := by unfold selW; rw [List.length_map, List.length_take]; omega
      have HLEN := Aside0.mk hlen
      simp only at hx hy
      clear hE hp hlen
      go_wp2_with (first
        | ((with_reducible refine gate_dst (N := 7) rfl ?_); refine zX (N := 7) (cs := #[.int .i64 0, .int .i64 0]) (t := 59) ?_; intro b7 hb7 wb7 hxb7 hlb7; have H7 := Aside0.mk (St.addB HS.out hxb7 hb7 hlb7); have z0 : wb7.cell? ⟨b7, 0, none⟩ = some (.int .i64 0) := St.cellB H7.out 0 rfl 0 rfl; have z1 : wb7.cell? ⟨b7, 1, none⟩ = some (.int .i64 0) := St.cellB H7.out 0 rfl 1 rfl; have f0 := blk_frozen (St.heapB H7.out 0 rfl) 0; have f1 := blk_frozen (St.heapB H7.out 0 rfl) 1; have H8 := Aside0.mk (St.putB (St.putB H7.out 0 rfl 0 (.int .i64 px) rfl) 0 rfl 1 (.int .i64 py) rfl); clear hxb7 hb7 hlb7)
        | (at_builtin; refine St.put1 (x := py) (bb := 0) (c := 0) rfl (.tmp 19) (.tmp 23) rfl H8.out 2 rfl rfl ?sX (by have := HLEN.out; omega) ?_; (case sX => (have e_ : ((wb7.setCell ⟨b7, 0, none⟩ (.int .i64 px)).setCell ⟨b7, 1, none⟩ (.int .i64 py)).heap.size = wb7.heap.size := (by simp [World.setCell]); rw [e_]; rfl)); intro v9 w9 ok9 h_; have H9 := Aside0.mk (St.less h_ (.cons _ (.cons_cons _ (.cons_cons _ .slnil)))); clear h_))
      go_roundg (X.length - (j + 1))
      case measure => omega
      case rel => exact ⟨j + 1, ok9, okp, by omega, by omega, by go_num, ⟨by rw [← HE2.out]; exact H9.out⟩⟩
    · have hj2 : j = X.length := by omega
      subst hj2
      have hltz : ¬ (X.length : Int) < (X.length : Int) := by omega
      go_wp2
      go_ret
      refine ⟨_, rfl, ?_, HS.out.below⟩
      rw [HE.out]
      have := HS.out.get 1 rfl
      rw [List.take_length] at this
      exact Kd.R_mono this (fun _ _ => trivial)
end Go.Proofs.Ytekjnjejgefbhaa.Q

set_option linter.unusedVariables false
set_option linter.unusedSimpArgs false
namespace Go.Proofs.Ytekjnjejgefbhaa.Q
open Go.RowKit Go.Proofs.Ytekjnjejgefbhaa.F Go.Proofs.YtekjnjejgefbhaaW.PrintWords Go.Proofs.YtekjnjejgefbhaaW.PrintLast Go.Proofs.YtekjnjejgefbhaaW.PrintMore
theorem results_cct {P : Program} {fn : Func} {p q u : Tmp} {ty ty' : TypeId} (h : fn.results = #[.cell p ty, .cell q ty', .tmp u]) (tmps : Array Value) (w : World) (g g' : Nat) (t t' : TypeId) (cs cs' : Array Value) (fr fr' : Nat × Nat) (d d' : TypeDesc)
    (hp : tmps.getD p undef = .pointer (some ⟨g, 0, none⟩)) (hg : w.heap[g]? = some (.cells cs t fr)) (hu : P.underlying ty = some d) (hd : (match d with | .struct _ | .array _ _ => true | _ => false) = true) (hi : (P.info? ty).map (·.size) = some cs.size)
    (hq : tmps.getD q undef = .pointer (some ⟨g', 0, none⟩)) (hg' : w.heap[g']? = some (.cells cs' t' fr')) (hu' : P.underlying ty' = some d') (hd' : (match d' with | .struct _ | .array _ _ => true | _ => false) = true) (hi' : (P.info? ty').map (·.size) = some cs'.size) :
    (results fn tmps).run P w = .ok (.tuple #[.agg cs, .agg cs', tmps.getD u undef]) w := by
  have hp' : tmps[p]?.getD undef = .pointer (some ⟨g, 0, none⟩) := by simpa using hp
  have hq' : tmps[q]?.getD undef = .pointer (some ⟨g', 0, none⟩) := by simpa using hq
  simp [results, h, hp', hq', asAddr, run_loadVar_row w g t ty cs fr d hg hu hd hi, run_loadVar_row w g' t' ty' cs' fr' d' hg' hu' hd' hi']
section
variable {w W W' : World} {L M : List Ob} {v v' v0 v1 : Value} {m : List (List Int)} {o o' : Ob}
/-- two variables lie apart -/
theorem St.neB {b b' t t' : Nat} {cs cs' : Array Value} (h : St w W L) (i j : Nat) (hij : i < j) (hi : L[i]? = some (obB b cs t)) (hj : L[j]? = some (obB b' cs' t')) : b ≠ b' ∧ b' ≠ b := by
  obtain ⟨hil, hi'⟩ := List.getElem?_eq_some_iff.1 hi
  obtain ⟨hjl, hj'⟩ := List.getElem?_eq_some_iff.1 hj
  have hp := List.pairwise_iff_getElem.1 h.apart i j hil hjl hij
  rw [hi', hj'] at hp
  exact ⟨fun e => hp b rfl e, fun e => hp b rfl e.symm⟩
/-- two lists of rows made at once -/
theorem St.addSS {α β : Type} {d : Kd α} {d' : Kd β} {t t' : Nat} {xs : List α} {ys : List β} {okp okq : Nat → Prop} (h : St w W L) (hb : Below W.heap.size W W') (hr : Kd.S d t W' W.heap.size okp v xs) (hr' : Kd.S d' t' W' W.heap.size okq v' ys) (ha : ∀ k, okp k → ¬ okq k) : ∃ ok1 ok2, St w W' (obS d t w ok1 v xs :: obS d' t' w ok2 v' ys :: L) := by
  have hs := h.below.size
  refine ⟨_, _, h.add2 (o := obS d t w (fun k => okp k ∧ W.heap.size ≤ k ∧ k < W'.heap.size) v xs) (o' := obS d' t' w (fun k => okq k ∧ W.heap.size ≤ k ∧ k < W'.heap.size) v' ys) hb (fun _ hk => hk.2) ?_ firmS (fun _ hk => hk.2) ?_ firmS (fun k hk hk2 => ha k hk.1 hk2.1)⟩
  · exact Kd.S_mono (Kd.S_lower (Kd.S_bound hr) hs) (fun k hk => ⟨hk.1, hk.2.1, hk.2.2.1⟩)
  · exact Kd.S_mono (Kd.S_lower (Kd.S_bound hr') hs) (fun k hk => ⟨hk.1, hk.2.1, hk.2.2.1⟩)
theorem St.addNil (h : St w W L) : St w W (obR (Kd.int .i64) 3 w (fun _ => False) (.slice none 0 0) [] :: L) :=
  h.add (o := obR (Kd.int .i64) 3 w (fun _ => False) (.slice none 0 0) []) (Below.refl _ _) (fun _ hk => hk.elim) (Kd.R_nil _ _ _ _ _) firmR
theorem St.addNilS (h : St w W L) : St w W (obS (Kd.slice 3 (Kd.int .i64)) 22 w (fun _ => False) (.slice none 0 0) [] :: L) :=
  h.add (o := obS (Kd.slice 3 (Kd.int .i64)) 22 w (fun _ => False) (.slice none 0 0) []) (Below.refl _ _) (fun _ hk => hk.elim) (Kd.S_nil _ _ _ _ _) firmS
theorem word_st {b : Bool} {F : Nat} {x : List Int} (h : St w W L) (hr : Reads (Kd.slice 3 (Kd.int .i64)) W v m) (hx : matWord b m = x) (args : List Value)
    (hc : ∀ (A : Option Addr) (c : Nat), Kd.C (Kd.slice 3 (Kd.int .i64)) W A m.length m → m.length ≤ c → Calls Try.prog F (.slice A m.length c :: args).toArray W fun e w' => ∃ v, e = .returned v ∧ Kd.R (Kd.int .i64) 3 w' W.heap.size (fun _ => True) v (matWord b m) ∧ Below W.heap.size W w') :
    Calls Try.prog F (v :: args).toArray W fun e W' => ∃ u ok, e = .returned u ∧ St w W' (obR (Kd.int .i64) 3 w ok u x :: L) := by
  subst hx
  obtain ⟨A, c, rfl, hcc, hC⟩ := hr
  refine (hc A c hC hcc).mono ?_
  rintro e W' ⟨u, rfl, hR, hB⟩
  obtain ⟨ok, h1⟩ := h.addR hB hR
  exact ⟨u, ok, rfl, h1⟩
set_option maxHeartbeats 4000000 in
theorem bottomWord_calls (A0 : Option Addr) (c0 : Nat) (m : List (List Int)) (w : World) (hr0 : Kd.C (Kd.slice 3 (Kd.int .i64)) w A0 m.length m) (hc0 : m.length ≤ c0) :
    Calls Try.prog 36 #[.slice A0 m.length c0] w fun e w' => ∃ v, e = .returned v ∧ Kd.R (Kd.int .i64) 3 w' w.heap.size (fun _ => True) v (matWord false m) ∧ Below w.heap.size w w' := by
  have HC := Aside0.mk (wordOf_callsB A0 c0 m w hr0 hc0)
  clear hr0
  go_enter Try.func36, Try.ntmps36
  go_wp2_with (go_at_call 59; (with_reducible refine HC.out.mono ?_); rintro e w1 ⟨v1, rfl, h1, h2⟩; have H1 := Aside0.mk h1; have H2 := Aside0.mk h2; clear h1 h2)
  go_ret
  exact ⟨_, rfl, H1.out, H2.out⟩
set_option maxHeartbeats 4000000 in
theorem topWord_calls (A0 : Option Addr) (c0 : Nat) (m : List (List Int)) (w : World) (hr0 : Kd.C (Kd.slice 3 (Kd.int .i64)) w A0 m.length m) (hc0 : m.length ≤ c0) :
    Calls Try.prog 34 #[.slice A0 m.length c0] w fun e w' => ∃ v, e = .returned v ∧ Kd.R (Kd.int .i64) 3 w' w.heap.size (fun _ => True) v (matWord true m) ∧ Below w.heap.size w w' := by
  have HC := Aside0.mk (wordOf_callsT A0 c0 m w hr0 hc0)
  clear hr0
  go_enter Try.func34, Try.ntmps34
  go_wp2_with (go_at_call 59; (with_reducible refine HC.out.mono ?_); rintro e w1 ⟨v1, rfl, h1, h2⟩; have H1 := Aside0.mk h1; have H2 := Aside0.mk h2; clear h1 h2)
  go_ret
  exact ⟨_, rfl, H1.out, H2.out⟩
theorem insertedWith_st {x t : List Int} {X Y : List (List Int)} (h : St w W L) (h0 : Reads (Kd.int .i64) W v0 x) (h1 : Reads (Kd.int .i64) W v1 t) (hl : x.length ≤ 900) (hlt : x.length ≤ t.length) (hX : (bothAt x (fun k => rd t (k : Int)) x.length).1 = X) (hY : (bothAt x (fun k => rd t (k : Int)) x.length).2 = Y) :
    Calls Try.prog 61 #[v0, v1] W fun e W' => ∃ pv qv okp okq, e = .returned (.tuple #[.agg #[.slice none 0 0, pv], .agg #[.slice none 0 0, qv]]) ∧ St w W' (obS (Kd.slice 3 (Kd.int .i64)) 22 w okp pv X :: obS (Kd.slice 3 (Kd.int .i64)) 22 w okq qv Y :: L) := by
  subst hX hY
  obtain ⟨A, c, rfl, hc, hC⟩ := h0
  obtain ⟨A', c', rfl, hc', hC'⟩ := h1
  refine (insertedWith_calls W A c x A' c' t hC hc hC' hc' hl hlt).mono ?_
  rintro e W' ⟨pv, qv, okp, okq, rfl, ha, hp, hq, hB⟩
  obtain ⟨ok1, ok2, h1⟩ := h.addSS hB hp hq ha
  exact ⟨pv, qv, ok1, ok2, rfl, h1⟩
end
set_option maxHeartbeats 16000000 in
set_option maxRecDepth 100000 in
theorem impl_pair_calls (A0 : Option Addr) (c0 : Nat) (m : List (List Int)) (w : World) (hr0 : Kd.C (Kd.slice 3 (Kd.int .i64)) w A0 m.length m) (hc0 : m.length ≤ c0) :
    Calls Try.prog 38 #[.slice A0 m.length c0] w fun e w' => ∃ (v0_ v1_ v2_ v3_ : Value) (ok0 ok1 ok2 ok3 : Nat → Prop), e = .returned (.tuple #[.agg #[v0_, v1_], .agg #[v2_, v3_], .bool (pairT m).2.2.2.2]) ∧ St w w' [obR (Kd.int .i64) 3 w ok0 v0_ (pairT m).1, obS (Kd.slice 3 (Kd.int .i64)) 22 w ok1 v1_ (pairT m).2.1, obR (Kd.int .i64) 3 w ok2 v2_ (pairT m).2.2.1, obS (Kd.slice 3 (Kd.int .i64)) 22 w ok3 v3_ (pairT m).2.2.2.1] := by
  have C0 := Aside0.mk hr0
  have H0 := Aside0.mk (St.start w)
  clear hr0
  by_cases hM : IsMat m
  case neg =>
    have HD := Aside0.mk (decide_eq_false hM)
    have HE := Aside0.mk (show pairT m = ([], [], [], [], false) by unfold pairT; rw [if_neg hM])
    clear hM
    go_enter Try.func38, Try.ntmps38
    go_wp2_with (first
      | ((with_reducible refine gate_dst (N := 2) rfl ?_); refine zX (N := 2) (cs := #[.slice none 0 0, .slice none 0 0]) (t := 40) ?_; intro b2 hb2 wb2 hxb2 hlb2; have H1 := Aside0.mk (St.addB H0.out hxb2 hb2 hlb2); clear hxb2 hlb2 hb2)
      | ((with_reducible refine gate_dst (N := 3) rfl ?_); refine zX (N := 3) (cs := #[.slice none 0 0, .slice none 0 0]) (t := 40) ?_; intro b3 hb3 wb3 hxb3 hlb3; have H2 := Aside0.mk (St.addB H1.out hxb3 hb3 hlb3); clear hxb3 hlb3 hb3; obtain ⟨n32, n23⟩ := St.neB H2.out 0 1 (by decide) rfl rfl)
      | (go_at_call 21; (with_reducible refine (isMat_st H2.out (H2.out.came C0.out hc0) HD.out).mono ?_); rintro e w3 ⟨rfl, h_⟩; have H3 := Aside0.mk h_; clear h_; have zb3_0 : w3.cell? ⟨b3, 0, none⟩ = some (.slice none 0 0) := St.cellB H3.out 0 rfl 0 rfl; have fb3_0 := blk_frozen (St.heapB H3.out 0 rfl) 0; have zb3_1 : w3.cell? ⟨b3, 1, none⟩ = some (.slice none 0 0) := St.cellB H3.out 0 rfl 1 rfl; have fb3_1 := blk_frozen (St.heapB H3.out 0 rfl) 1; have zb2_0 : w3.cell? ⟨b2, 0, none⟩ = some (.slice none 0 0) := St.cellB H3.out 1 rfl 0 rfl; have fb2_0 := blk_frozen (St.heapB H3.out 1 rfl) 0; have zb2_1 : w3.cell? ⟨b2, 1, none⟩ = some (.slice none 0 0) := St.cellB H3.out 1 rfl 1 rfl; have fb2_1 := blk_frozen (St.heapB H3.out 1 rfl) 1))
    have HZ9 := Aside0.mk (St.putB (St.putB (St.putB (St.putB H3.out 1 rfl 0 (.slice none 0 0) rfl) 1 rfl 1 (.slice none 0 0) rfl) 0 rfl 0 (.slice none 0 0) rfl) 0 rfl 1 (.slice none 0 0) rfl)
    refine bodyPost_ret (results_cct rfl _ _ b2 b3 40 40 #[.slice none 0 0, .slice none 0 0] #[.slice none 0 0, .slice none 0 0] (0, 0) (0, 0) _ _ rfl (St.heapB HZ9.out 1 rfl) Try.underlying40 rfl (by kernel_rfl) rfl (St.heapB HZ9.out 0 rfl) Try.underlying40 rfl (by kernel_rfl)) rfl ?_
    rw [HE.out]
    exact ⟨_, _, _, _, _, _, _, _, rfl, St.less (St.addNil (St.addNilS (St.addNil (St.addNilS HZ9.out)))) (.cons_cons _ (.cons_cons _ (.cons_cons _ (.cons_cons _ (.cons _ (.cons _ .slnil))))))⟩
  have HD := Aside0.mk (decide_eq_true hM)
  obtain ⟨x, hx⟩ : ∃ x, matWord false m = x := ⟨_, rfl⟩
  obtain ⟨t, ht⟩ : ∃ t, matWord true m = t := ⟨_, rfl⟩
  obtain ⟨X, hX⟩ : ∃ X, (bothAt x (fun k => rd t (k : Int)) x.length).1 = X := ⟨_, rfl⟩
  obtain ⟨Y, hY⟩ : ∃ Y, (bothAt x (fun k => rd t (k : Int)) x.length).2 = Y := ⟨_, rfl⟩
  have HE := Aside0.mk (show pairT m = ([], X, [], Y, true) by unfold pairT; rw [if_pos hM, hx, ht, hX, hY])
  have hl : x.length ≤ 900 := by rw [← hx]; have := matWord_bd false m; omega
  have hlt : x.length ≤ t.length := by rw [← hx, ← ht, matWord_len]; exact Nat.le_refl _
  have HX := Aside0.mk hx
  have HT := Aside0.mk ht
  have HXX := Aside0.mk hX
  have HYY := Aside0.mk hY
  clear hM hx ht hX hY
  go_enter Try.func38, Try.ntmps38
  go_wp2_with (first
    | ((with_reducible refine gate_dst (N := 2) rfl ?_); refine zX (N := 2) (cs := #[.slice none 0 0, .slice none 0 0]) (t := 40) ?_; intro b2 hb2 wb2 hxb2 hlb2; have H1 := Aside0.mk (St.addB H0.out hxb2 hb2 hlb2); clear hxb2 hlb2 hb2)
    | ((with_reducible refine gate_dst (N := 3) rfl ?_); refine zX (N := 3) (cs := #[.slice none 0 0, .slice none 0 0]) (t := 40) ?_; intro b3 hb3 wb3 hxb3 hlb3; have H2 := Aside0.mk (St.addB H1.out hxb3 hb3 hlb3); clear hxb3 hlb3 hb3; obtain ⟨n32, n23⟩ := St.neB H2.out 0 1 (by decide) rfl rfl)
    | (go_at_call 21; (with_reducible refine (isMat_st H2.out (H2.out.came C0.out hc0) HD.out).mono ?_); rintro e w3 ⟨rfl, h_⟩; have H3 := Aside0.mk h_; clear h_)
    | (go_at_call 36; (with_reducible refine (word_st (F := 36) H3.out (H3.out.came C0.out hc0) HX.out [] (fun A c hC hcc => bottomWord_calls A c m _ hC hcc)).mono ?_); rintro e w4 ⟨vx, okx, rfl, h_⟩; have H4 := Aside0.mk h_; clear h_)
    | (go_at_call 34; (with_reducible refine (word_st (F := 34) H4.out (H4.out.came C0.out hc0) HT.out [] (fun A c hC hcc => topWord_calls A c m _ hC hcc)).mono ?_); rintro e w5 ⟨vt, okt, rfl, h_⟩; have H5 := Aside0.mk h_; clear h_)
    | (go_at_call 61; (with_reducible refine (insertedWith_st H5.out (H5.out.readR 1 rfl) (H5.out.readR 0 rfl) hl hlt HXX.out HYY.out).mono ?_); rintro e w6 ⟨pv, qv, okp, okq, rfl, h_⟩; have H6 := Aside0.mk h_; clear h_; obtain ⟨Ap, cp, rfl, _, _⟩ := H6.out.readS 0 rfl; obtain ⟨Aq, cq, rfl, _, _⟩ := H6.out.readS 1 rfl)
    | ((with_reducible refine gate_dst (N := 5) rfl ?_); refine zX (N := 5) (cs := #[.slice none 0 0, .slice none 0 0]) (t := 40) ?_; intro b5 hb5 wb5 hxb5 hlb5; have H7 := Aside0.mk (St.addB H6.out hxb5 hb5 hlb5); clear hxb5 hlb5 hb5)
    | ((with_reducible refine gate_dst (N := 6) rfl ?_); refine zX (N := 6) (cs := #[.slice none 0 0, .slice none 0 0]) (t := 40) ?_; intro b6 hb6 wb6 hxb6 hlb6; have H8 := Aside0.mk (St.addB H7.out hxb6 hb6 hlb6); clear hxb6 hlb6 hb6; obtain ⟨n65, n56⟩ := St.neB H8.out 0 1 (by decide) rfl rfl; have zb6_0 : wb6.cell? ⟨b6, 0, none⟩ = some (.slice none 0 0) := St.cellB H8.out 0 rfl 0 rfl; have fb6_0 := blk_frozen (St.heapB H8.out 0 rfl) 0; have zb6_1 : wb6.cell? ⟨b6, 1, none⟩ = some (.slice none 0 0) := St.cellB H8.out 0 rfl 1 rfl; have fb6_1 := blk_frozen (St.heapB H8.out 0 rfl) 1; have zb5_0 : wb6.cell? ⟨b5, 0, none⟩ = some (.slice none 0 0) := St.cellB H8.out 1 rfl 0 rfl; have fb5_0 := blk_frozen (St.heapB H8.out 1 rfl) 0; have zb5_1 : wb6.cell? ⟨b5, 1, none⟩ = some (.slice none 0 0) := St.cellB H8.out 1 rfl 1 rfl; have fb5_1 := blk_frozen (St.heapB H8.out 1 rfl) 1))
  have H9 := Aside0.mk (St.putB (St.putB (St.putB (St.putB H8.out 1 rfl 0 (.slice none 0 0) rfl) 1 rfl 1 (.slice Ap X.length cp) rfl) 0 rfl 0 (.slice none 0 0) rfl) 0 rfl 1 (.slice Aq Y.length cq) rfl)
  obtain ⟨wz, hwz⟩ : ∃ wz, wz = (((wb6.setCell ⟨b5, 0, none⟩ (.slice none 0 0)).setCell ⟨b5, 1, none⟩ (.slice Ap X.length cp)).setCell ⟨b6, 0, none⟩ (.slice none 0 0)).setCell ⟨b6, 1, none⟩ (.slice Aq Y.length cq) := ⟨_, rfl⟩
  rw [← hwz] at H9 ⊢
  clear hwz zb6_0 zb6_1 zb5_0 zb5_1 fb6_0 fb6_1 fb5_0 fb5_1
  have H10 := Aside0.mk (H9.out.quiet (below_drew (Below.refl _ _)))
  have yb6_0 : wz.cell? ⟨b6, 0, none⟩ = some (.slice none 0 0) := St.cellB H9.out 0 rfl 0 rfl
  have gb6_0 := blk_frozen (St.heapB H9.out 0 rfl) 0
  have yb6_1 : wz.cell? ⟨b6, 1, none⟩ = some (.slice Aq Y.length cq) := St.cellB H9.out 0 rfl 1 rfl
  have gb6_1 := blk_frozen (St.heapB H9.out 0 rfl) 1
  have yb5_0 : wz.cell? ⟨b5, 0, none⟩ = some (.slice none 0 0) := St.cellB H9.out 1 rfl 0 rfl
  have gb5_0 := blk_frozen (St.heapB H9.out 1 rfl) 0
  have yb5_1 : wz.cell? ⟨b5, 1, none⟩ = some (.slice Ap X.length cp) := St.cellB H9.out 1 rfl 1 rfl
  have gb5_1 := blk_frozen (St.heapB H9.out 1 rfl) 1
  have yb3_0 : wz.cell? ⟨b3, 0, none⟩ = some (.slice none 0 0) := St.cellB H9.out 6 rfl 0 rfl
  have gb3_0 := blk_frozen (St.heapB H9.out 6 rfl) 0
  have yb3_1 : wz.cell? ⟨b3, 1, none⟩ = some (.slice none 0 0) := St.cellB H9.out 6 rfl 1 rfl
  have gb3_1 := blk_frozen (St.heapB H9.out 6 rfl) 1
  have yb2_0 : wz.cell? ⟨b2, 0, none⟩ = some (.slice none 0 0) := St.cellB H9.out 7 rfl 0 rfl
  have gb2_0 := blk_frozen (St.heapB H9.out 7 rfl) 0
  have yb2_1 : wz.cell? ⟨b2, 1, none⟩ = some (.slice none 0 0) := St.cellB H9.out 7 rfl 1 rfl
  have gb2_1 := blk_frozen (St.heapB H9.out 7 rfl) 1
  obtain ⟨m06, m60⟩ := St.neB H9.out 0 6 (by decide) rfl rfl
  obtain ⟨m07, m70⟩ := St.neB H9.out 0 7 (by decide) rfl rfl
  obtain ⟨m16, m61⟩ := St.neB H9.out 1 6 (by decide) rfl rfl
  obtain ⟨m17, m71⟩ := St.neB H9.out 1 7 (by decide) rfl rfl
  go_region
  go_wp2
  have HZ9 := Aside0.mk ((St.putB (St.putB (St.putB (St.putB H9.out 7 rfl 0 (.slice none 0 0) rfl) 7 rfl 1 (.slice Ap X.length cp) rfl) 6 rfl 0 (.slice none 0 0) rfl) 6 rfl 1 (.slice Aq Y.length cq) rfl).quiet (below_drew (Below.refl _ _)))
  refine bodyPost_ret (results_cct rfl _ _ b2 b3 40 40 #[.slice none 0 0, .slice Ap X.length cp] #[.slice none 0 0, .slice Aq Y.length cq] (0, 0) (0, 0) _ _ rfl (St.heapB HZ9.out 7 rfl) Try.underlying40 rfl (by kernel_rfl) rfl (St.heapB HZ9.out 6 rfl) Try.underlying40 rfl (by kernel_rfl)) rfl ?_
  rw [HE.out]
  exact ⟨_, _, _, _, _, _, _, _, rfl, St.perm_ (St.addNil (St.addNil (St.less HZ9.out (.cons _ (.cons _ (.cons_cons _ (.cons_cons _ (.cons _ (.cons _ (.cons _ (.cons _ .slnil))))))))))) (List.Perm.cons _ (List.Perm.swap _ _ _))⟩
section
variable {w W W' : World} {L M : List Ob} {v v' v0 v1 : Value} {m : List (List Int)} {o o' : Ob}
/-- what a call has made, with what was held before it -/
theorem St.join (h : St w W L) (h' : St W W' M) : St w W' (M ++ L) := by
  have hq := h.quiet h'.below
  refine ⟨hq.below, fun p hp => ?_, List.pairwise_append.2 ⟨h'.apart, hq.apart, fun a ha b hb k hka hkb => ?_⟩⟩
  · rcases List.mem_append.1 hp with hp | hp
    · obtain ⟨h1, h2⟩ := h'.own p hp
      exact ⟨fun k hk => ⟨Nat.le_trans h.below.size (h1 k hk).1, (h1 k hk).2⟩, h2⟩
    · exact hq.own p hp
  · have h1 := ((h'.own a ha).1 k hka).1
    have h2 := ((h.own b hb).1 k hkb).2
    omega
theorem St.weak (h : St w W L) (i : Nat) (hi : L[i]? = some o) (hok : ∀ k, o'.ok k → o.ok k) (hP : o'.P W) (hF : Firm o') : St w W (L.set i o') :=
  St.redo1 h i hi (Kept.refl _ _) h.below ⟨fun k hk => ⟨.inl (hok k hk), (h.own o (List.mem_of_getElem? hi)).1 k (hok k hk)⟩, hP, hF⟩
theorem St.baseR {α : Type} {d : Kd α} {t : Nat} {ok : Nat → Prop} {xs : List α} (h : St w W' L) (hs : w.heap.size ≤ W.heap.size) (i : Nat) (hi : L[i]? = some (obR d t W ok v xs)) : St w W' (L.set i (obR d t w ok v xs)) :=
  St.weak h i hi (fun _ hk => hk) (Kd.R_lower (show Kd.R d t W' W.heap.size ok v xs from h.get i hi) hs) firmR
theorem St.baseS {α : Type} {d : Kd α} {t : Nat} {ok : Nat → Prop} {xs : List α} (h : St w W' L) (hs : w.heap.size ≤ W.heap.size) (i : Nat) (hi : L[i]? = some (obS d t W ok v xs)) : St w W' (L.set i (obS d t w ok v xs)) :=
  St.weak h i hi (fun _ hk => hk) (Kd.S_lower (show Kd.S d t W' W.heap.size ok v xs from h.get i hi) hs) firmS
theorem specIsMat_st {b : Bool} (h : St w W L) (hr : Reads (Kd.slice 3 (Kd.int .i64)) W v m) (hm : m.length ≤ 1048576) (hq : ∀ r ∈ m, r.length ≤ 1048576) (hb : decide (IsMat m) = b) :
    Calls Try.prog 19 #[v] W fun e W' => e = .returned (.bool b) ∧ St w W' L := by
  obtain ⟨A, c, rfl, hc, hC⟩ := hr
  obtain ⟨K, hK⟩ := ev_eq (spec_IsMatrix_ev m hm hq) hb
  refine (spec_IsMatrix.calls K A c m b W hC hc (hK K (Nat.le_refl _))).mono ?_
  rintro e W' ⟨rfl, hd⟩
  exact ⟨rfl, h.drawn hd⟩
theorem spec16_st {b : Bool} {x : List Int} (h : St w W L) (hr : Reads (Kd.slice 3 (Kd.int .i64)) W v m) (hm : m.length ≤ 1048576) (hq : ∀ r ∈ m, r.length ≤ 1048576) (hx : matWord b m = x) :
    Calls Try.prog 58 #[v, .bool b] W fun e W' => ∃ u ok, e = .returned u ∧ St w W' (obR (Kd.int .i64) 3 w ok u x :: L) := by
  obtain ⟨A, c, rfl, hc, hC⟩ := hr
  obtain ⟨K, hK⟩ := ev_eq (spec_l16Word_ev m b hm hq) hx
  refine (spec_l16Word.calls K A c m b x W hC hc (hK K (Nat.le_refl _))).mono ?_
  rintro e W' ⟨u, rfl, hR, hB⟩
  obtain ⟨ok, h1⟩ := h.addR hB hR
  exact ⟨u, ok, rfl, h1⟩
theorem l9Both_st {x : List Int} {X Y : List (List Int)} (h : St w W L) (h0 : Reads (Kd.int .i64) W v0 x) (hl : x.length ≤ 900) (hX : (bothAt x (fun k => ((k + 1 : Nat) : Int)) x.length).1 = X) (hY : (bothAt x (fun k => ((k + 1 : Nat) : Int)) x.length).2 = Y) :
    Calls Try.prog 60 #[v0] W fun e W' => ∃ iv pv qv oki okp okq, e = .returned (.tuple #[.agg #[iv, pv], .agg #[.slice none 0 0, qv]]) ∧ St w W' (obR (Kd.int .i64) 3 w oki iv [] :: obS (Kd.slice 3 (Kd.int .i64)) 22 w okp pv X :: obS (Kd.slice 3 (Kd.int .i64)) 22 w okq qv Y :: L) := by
  subst hX hY
  obtain ⟨A, c, rfl, hc, hC⟩ := h0
  refine (l9Both_calls W A c x hC hc hl).mono ?_
  rintro e W' ⟨iv, pv, qv, okp, okq, rfl, ha, hi, hp, hq, hB⟩
  obtain ⟨ok1, ok2, h1⟩ := (St.start W).addSS (okp := fun k => okp k ∧ some k ≠ iv.ownBlock) hB hp hq (fun k hk => ha k hk.1)
  have hi' : Kd.R (Kd.int .i64) 3 W' W.heap.size (fun k => some k = iv.ownBlock ∧ W.heap.size ≤ k ∧ k < W'.heap.size) iv [] := Kd.R_mono (Kd.R_bound (Kd.R_tight rfl hi)) (fun k hk => ⟨hk.1, hk.2.1, hk.2.2.1⟩)
  have h2 : St W W' [obR (Kd.int .i64) 3 W (fun k => some k = iv.ownBlock ∧ W.heap.size ≤ k ∧ k < W'.heap.size) iv [], obS (Kd.slice 3 (Kd.int .i64)) 22 W (fun k => (okp k ∧ some k ≠ iv.ownBlock) ∧ W.heap.size ≤ k ∧ k < W'.heap.size) pv (bothAt x (fun k => ((k + 1 : Nat) : Int)) x.length).1, obS (Kd.slice 3 (Kd.int .i64)) 22 W (fun k => okq k ∧ W.heap.size ≤ k ∧ k < W'.heap.size) qv (bothAt x (fun k => ((k + 1 : Nat) : Int)) x.length).2] := by
    refine ⟨hB, fun o ho => ?_, ?_⟩
    · simp only [List.mem_cons, List.not_mem_nil, or_false] at ho
      rcases ho with rfl | rfl | rfl
      · exact ⟨fun k hk => hk.2, hi', firmR⟩
      · exact ⟨fun k hk => hk.2, Kd.S_mono (Kd.S_bound hp) (fun k hk => ⟨hk.1, hk.2.1, hk.2.2.1⟩), firmS⟩
      · exact ⟨fun k hk => hk.2, Kd.S_mono (Kd.S_bound hq) (fun k hk => ⟨hk.1, hk.2.1, hk.2.2.1⟩), firmS⟩
    · refine List.Pairwise.cons (fun o ho k hk hk2 => ?_) (List.Pairwise.cons (fun o ho k hk hk2 => ?_) (List.pairwise_singleton _ _))
      · simp only [List.mem_cons, List.not_mem_nil, or_false] at ho
        rcases ho with rfl | rfl
        · exact hk2.1.2 hk.1
        · exact ha k (hi.1 k hk.1.symm) hk2.1
      · obtain rfl := List.mem_singleton.1 ho
        exact ha k hk.1.1 hk2.1
  have hs := h.below.size
  exact ⟨iv, pv, qv, _, _, _, rfl, St.baseS (St.baseS (St.baseR (h.join h2) hs 0 rfl) hs 1 rfl) hs 2 rfl⟩
end
set_option maxHeartbeats 16000000 in
set_option maxRecDepth 100000 in
theorem spec_pair_calls (A0 : Option Addr) (c0 : Nat) (m : List (List Int)) (w : World) (hr0 : Kd.C (Kd.slice 3 (Kd.int .i64)) w A0 m.length m) (hc0 : m.length ≤ c0) (hm : m.length ≤ 1048576) (hr : ∀ r ∈ m, r.length ≤ 1048576) :
    Calls Try.prog 37 #[.slice A0 m.length c0] w fun e w' => ∃ (v0_ v1_ v2_ v3_ : Value) (ok0 ok1 ok2 ok3 : Nat → Prop), e = .returned (.tuple #[.agg #[v0_, v1_], .agg #[v2_, v3_], .bool (pairT m).2.2.2.2]) ∧ St w w' [obR (Kd.int .i64) 3 w ok0 v0_ (pairT m).1, obS (Kd.slice 3 (Kd.int .i64)) 22 w ok1 v1_ (pairT m).2.1, obR (Kd.int .i64) 3 w ok2 v2_ (pairT m).2.2.1, obS (Kd.slice 3 (Kd.int .i64)) 22 w ok3 v3_ (pairT m).2.2.2.1] := by
  have C0 := Aside0.mk hr0
  have H0 := Aside0.mk (St.start w)
  clear hr0
  by_cases hM : IsMat m
  case neg =>
    have HD := Aside0.mk (decide_eq_false hM)
    have HE := Aside0.mk (show pairT m = ([], [], [], [], false) by unfold pairT; rw [if_neg hM])
    clear hM
    go_enter Try.func37, Try.ntmps37
    go_wp2_with (first
      | ((with_reducible refine gate_dst (N := 2) rfl ?_); refine zX (N := 2) (cs := #[.slice none 0 0, .slice none 0 0]) (t := 40) ?_; intro b2 hb2 wb2 hxb2 hlb2; have H1 := Aside0.mk (St.addB H0.out hxb2 hb2 hlb2); clear hxb2 hlb2 hb2)
      | ((with_reducible refine gate_dst (N := 3) rfl ?_); refine zX (N := 3) (cs := #[.slice none 0 0, .slice none 0 0]) (t := 40) ?_; intro b3 hb3 wb3 hxb3 hlb3; have H2 := Aside0.mk (St.addB H1.out hxb3 hb3 hlb3); clear hxb3 hlb3 hb3; obtain ⟨n32, n23⟩ := St.neB H2.out 0 1 (by decide) rfl rfl)
      | (go_at_call 19; (with_reducible refine (specIsMat_st H2.out (H2.out.came C0.out hc0) hm hr HD.out).mono ?_); rintro e w3 ⟨rfl, h_⟩; have H3 := Aside0.mk h_; clear h_; have zb3_0 : w3.cell? ⟨b3, 0, none⟩ = some (.slice none 0 0) := St.cellB H3.out 0 rfl 0 rfl; have fb3_0 := blk_frozen (St.heapB H3.out 0 rfl) 0; have zb3_1 : w3.cell? ⟨b3, 1, none⟩ = some (.slice none 0 0) := St.cellB H3.out 0 rfl 1 rfl; have fb3_1 := blk_frozen (St.heapB H3.out 0 rfl) 1; have zb2_0 : w3.cell? ⟨b2, 0, none⟩ = some (.slice none 0 0) := St.cellB H3.out 1 rfl 0 rfl; have fb2_0 := blk_frozen (St.heapB H3.out 1 rfl) 0; have zb2_1 : w3.cell? ⟨b2, 1, none⟩ = some (.slice none 0 0) := St.cellB H3.out 1 rfl 1 rfl; have fb2_1 := blk_frozen (St.heapB H3.out 1 rfl) 1))
    have HZ9 := Aside0.mk (St.putB (St.putB (St.putB (St.putB H3.out 1 rfl 0 (.slice none 0 0) rfl) 1 rfl 1 (.slice none 0 0) rfl) 0 rfl 0 (.slice none 0 0) rfl) 0 rfl 1 (.slice none 0 0) rfl)
    refine bodyPost_ret (results_cct rfl _ _ b2 b3 40 40 #[.slice none 0 0, .slice none 0 0] #[.slice none 0 0, .slice none 0 0] (0, 0) (0, 0) _ _ rfl (St.heapB HZ9.out 1 rfl) Try.underlying40 rfl (by kernel_rfl) rfl (St.heapB HZ9.out 0 rfl) Try.underlying40 rfl (by kernel_rfl)) rfl ?_
    rw [HE.out]
    exact ⟨_, _, _, _, _, _, _, _, rfl, St.less (St.addNil (St.addNilS (St.addNil (St.addNilS HZ9.out)))) (.cons_cons _ (.cons_cons _ (.cons_cons _ (.cons_cons _ (.cons _ (.cons _ .slnil))))))⟩
  have HD := Aside0.mk (decide_eq_true hM)
  obtain ⟨x, hx⟩ : ∃ x, matWord false m = x := ⟨_, rfl⟩
  obtain ⟨t, ht⟩ : ∃ t, matWord true m = t := ⟨_, rfl⟩
  obtain ⟨X, hX⟩ : ∃ X, (bothAt x (fun k => ((k + 1 : Nat) : Int)) x.length).1 = X := ⟨_, rfl⟩
  obtain ⟨Y, hY⟩ : ∃ Y, (bothAt x (fun k => ((k + 1 : Nat) : Int)) x.length).2 = Y := ⟨_, rfl⟩
  obtain ⟨F, hF⟩ : ∃ F : Int → Int, F = fun y => rd t (y - 1) := ⟨_, rfl⟩
  have HE := Aside0.mk (show pairT m = ([], X, [], Y.map (List.map F), true) by unfold pairT; rw [if_pos hM, hx, ht, ← hX, ← hY, hF, pair_relab, bothAt_fst x (fun k => rd t (k : Int)) (fun k => ((k + 1 : Nat) : Int))])
  have hl : x.length ≤ 900 := by rw [← hx]; have := matWord_bd false m; omega
  have htl : t.length = x.length := by rw [← hx, ← ht, matWord_len]
  have hYb := bothAt_bd x x.length
  rw [hY] at hYb
  have HYB := Aside0.mk hYb
  have hYl := hYb.1
  have HX := Aside0.mk hx
  have HT := Aside0.mk ht
  have HXX := Aside0.mk hX
  have HYY := Aside0.mk hY
  have HF := Aside0.mk hF
  have HTL := Aside0.mk htl
  clear hM hx ht hX hY hYb hF htl
  go_enter Try.func37, Try.ntmps37
  go_wp2_with (first
    | ((with_reducible refine gate_dst (N := 2) rfl ?_); refine zX (N := 2) (cs := #[.slice none 0 0, .slice none 0 0]) (t := 40) ?_; intro b2 hb2 wb2 hxb2 hlb2; have H1 := Aside0.mk (St.addB H0.out hxb2 hb2 hlb2); clear hxb2 hlb2 hb2)
    | ((with_reducible refine gate_dst (N := 3) rfl ?_); refine zX (N := 3) (cs := #[.slice none 0 0, .slice none 0 0]) (t := 40) ?_; intro b3 hb3 wb3 hxb3 hlb3; have H2 := Aside0.mk (St.addB H1.out hxb3 hb3 hlb3); clear hxb3 hlb3 hb3; obtain ⟨n32, n23⟩ := St.neB H2.out 0 1 (by decide) rfl rfl)
    | (go_at_call 19; (with_reducible refine (specIsMat_st H2.out (H2.out.came C0.out hc0) hm hr HD.out).mono ?_); rintro e w3 ⟨rfl, h_⟩; have H3 := Aside0.mk h_; clear h_)
    | (go_at_call 58; (with_reducible refine (spec16_st H3.out (H3.out.came C0.out hc0) hm hr HT.out).mono ?_); rintro e w4 ⟨vt, okt, rfl, h_⟩; have H4 := Aside0.mk h_; clear h_; obtain ⟨At, ct, rfl, _, _⟩ := H4.out.readR 0 rfl)
    | (go_at_call 58; (with_reducible refine (spec16_st H4.out (H4.out.came C0.out hc0) hm hr HX.out).mono ?_); rintro e w5 ⟨vx, okx, rfl, h_⟩; have H5 := Aside0.mk h_; clear h_)
    | (go_at_call 60; (with_reducible refine (l9Both_st H5.out (H5.out.readR 0 rfl) hl HXX.out HYY.out).mono ?_); rintro e w6 ⟨iv, pv, qv, oki, okp, okq, rfl, h_⟩; have H6 := Aside0.mk h_; clear h_; obtain ⟨Ai, ci, rfl, _, _⟩ := H6.out.readR 0 rfl; obtain ⟨Ap, cp, rfl, _, _⟩ := H6.out.readS 1 rfl; obtain ⟨Aq, cq, rfl, _, _⟩ := H6.out.readS 2 rfl)
    | ((with_reducible refine gate_dst (N := 6) rfl ?_); refine zX (N := 6) (cs := #[.slice none 0 0, .slice none 0 0]) (t := 40) ?_; intro b6 hb6 wb6 hxb6 hlb6; have H7 := Aside0.mk (St.addB H6.out hxb6 hb6 hlb6); clear hxb6 hlb6 hb6)
    | ((with_reducible refine gate_dst (N := 7) rfl ?_); refine zX (N := 7) (cs := #[.slice none 0 0, .slice none 0 0]) (t := 40) ?_; intro b7 hb7 wb7 hxb7 hlb7; have H8 := Aside0.mk (St.addB H7.out hxb7 hb7 hlb7); clear hxb7 hlb7 hb7; obtain ⟨n65, n56⟩ := St.neB H8.out 0 1 (by decide) rfl rfl; have zb7_0 : wb7.cell? ⟨b7, 0, none⟩ = some (.slice none 0 0) := St.cellB H8.out 0 rfl 0 rfl; have fb7_0 := blk_frozen (St.heapB H8.out 0 rfl) 0; have zb7_1 : wb7.cell? ⟨b7, 1, none⟩ = some (.slice none 0 0) := St.cellB H8.out 0 rfl 1 rfl; have fb7_1 := blk_frozen (St.heapB H8.out 0 rfl) 1; have zb6_0 : wb7.cell? ⟨b6, 0, none⟩ = some (.slice none 0 0) := St.cellB H8.out 1 rfl 0 rfl; have fb6_0 := blk_frozen (St.heapB H8.out 1 rfl) 0; have zb6_1 : wb7.cell? ⟨b6, 1, none⟩ = some (.slice none 0 0) := St.cellB H8.out 1 rfl 1 rfl; have fb6_1 := blk_frozen (St.heapB H8.out 1 rfl) 1))
  have H9 := Aside0.mk (St.putB (St.putB (St.putB (St.putB H8.out 1 rfl 0 (.slice Ai 0 ci) rfl) 1 rfl 1 (.slice Ap X.length cp) rfl) 0 rfl 0 (.slice none 0 0) rfl) 0 rfl 1 (.slice Aq Y.length cq) rfl)
  obtain ⟨wz, hwz⟩ : ∃ wz, wz = (((wb7.setCell ⟨b6, 0, none⟩ (.slice Ai 0 ci)).setCell ⟨b6, 1, none⟩ (.slice Ap X.length cp)).setCell ⟨b7, 0, none⟩ (.slice none 0 0)).setCell ⟨b7, 1, none⟩ (.slice Aq Y.length cq) := ⟨_, rfl⟩
  rw [← hwz] at H9 ⊢
  clear hwz zb7_0 zb7_1 zb6_0 zb6_1 fb7_0 fb7_1 fb6_0 fb6_1
  go_loopg [8] Y.length (fun kq v8 wr => ∃ (r : Nat) (ok : Nat → Prop), r ≤ Y.length ∧ Y.length - r ≤ kq ∧ v8 = .int .i64 (r : Int) ∧ Aside0 (St w wr [obB b7 #[.slice none 0 0, .slice Aq Y.length cq] 40, obB b6 #[.slice Ai 0 ci, .slice Ap X.length cp] 40, obR (Kd.int .i64) 3 w oki (.slice Ai 0 ci) [], obS (Kd.slice 3 (Kd.int .i64)) 22 w okp (.slice Ap X.length cp) X, obS (Kd.slice 3 (Kd.int .i64)) 22 w ok (.slice Aq Y.length cq) (relab F Y r 0), obR (Kd.int .i64) 3 w okx vx x, obR (Kd.int .i64) 3 w okt (.slice At t.length ct) t, obB b3 #[.slice none 0 0, .slice none 0 0] 40, obB b2 #[.slice none 0 0, .slice none 0 0] 40]))
  case atStart => exact ⟨0, okq, Nat.zero_le _, by omega, rfl, ⟨by rw [relab_start]; exact H9.out⟩⟩
  case round =>
    clear H0 H1 H2 H3 H4 H5 H6 H7 H8 H9
    obtain ⟨r, ok, hrl0, hg, rfl, HS⟩ := hrel
    by_cases hlt : r < Y.length
    · have hltz : (r : Int) < (Y.length : Int) := by omega
      have z1 : wr.cell? ⟨b7, 1, none⟩ = some (.slice Aq Y.length cq) := St.cellB HS.out 0 rfl 1 rfl
      obtain ⟨row, hrow⟩ : ∃ q, Y[r] = q := ⟨_, rfl⟩
      have hrb := HYB.out.2 Y[r] (List.getElem_mem hlt)
      rw [hrow] at hrb
      have HRB := Aside0.mk hrb
      have HROW := Aside0.mk hrow
      have hrw9 := hrb.1
      clear hrb hrow
      go_wp2
      go_loopg [9] row.length (fun kq v9 wr => ∃ (k : Nat) (ok : Nat → Prop), k ≤ row.length ∧ row.length - k ≤ kq ∧ v9 = .int .i64 (k : Int) ∧ Aside0 (St w wr [obB b7 #[.slice none 0 0, .slice Aq Y.length cq] 40, obB b6 #[.slice Ai 0 ci, .slice Ap X.length cp] 40, obR (Kd.int .i64) 3 w oki (.slice Ai 0 ci) [], obS (Kd.slice 3 (Kd.int .i64)) 22 w okp (.slice Ap X.length cp) X, obS (Kd.slice 3 (Kd.int .i64)) 22 w ok (.slice Aq Y.length cq) (relab F Y r k), obR (Kd.int .i64) 3 w okx vx x, obR (Kd.int .i64) 3 w okt (.slice At t.length ct) t, obB b3 #[.slice none 0 0, .slice none 0 0] 40, obB b2 #[.slice none 0 0, .slice none 0 0] 40]))
      case atStart => exact ⟨0, ok, Nat.zero_le _, by omega, rfl, HS⟩
      case round =>
        clear HS z1
        obtain ⟨k, ok, hk, hg2, rfl, HS⟩ := hrel
        have z1 : wr.cell? ⟨b7, 1, none⟩ = some (.slice Aq Y.length cq) := St.cellB HS.out 0 rfl 1 rfl
        obtain ⟨rowk, hrk⟩ : ∃ q, (relab F Y r k)[r]'(by rw [relab_length]; exact hlt) = q := ⟨_, rfl⟩
        have hrke : rowk = (row.take k).map F ++ row.drop k := by rw [← hrk, relab_row F Y r k hlt, HROW.out]
        have hrl : rowk.length = row.length := by rw [hrke, List.length_append, List.length_map, List.length_take, List.length_drop]; omega
        obtain ⟨g_, c_, A1, k1, hv, hgb, hcg, hfg, hle1, hrd, hne, hput, hcut⟩ := St.lendS HS.out 4 rfl r (by rw [relab_length]; exact hlt) hrk
        injection hv with e1 e2_ e3_
        clear e2_ e3_
        subst e1
        by_cases hlt2 : k < row.length
        · have hkz : (k : Int) < (rowk.length : Int) := by omega
          obtain ⟨g1, rfl, hg1⟩ := hne (by omega)
          obtain ⟨hcc, hfc, hst⟩ := hput k g1 (by omega) rfl
          have hy := HRB.out.2 _ (rd_mem row k hlt2)
          have hrdk : rd rowk (k : Int) = rd row (k : Int) := by
            rw [hrke, rd_eq row k hlt2, rd_nat, List.getD_eq_getElem?_getD, List.getElem?_append_right (by rw [List.length_map, List.length_take]; omega), List.length_map, List.length_take, Nat.min_eq_left (by omega), Nat.sub_self, List.getElem?_drop, Nat.add_zero, List.getElem?_eq_getElem hlt2]
            rfl
          obtain ⟨y, hye⟩ : ∃ y, rd rowk (k : Int) = y := ⟨_, rfl⟩
          rw [hye] at hcc
          rw [← hrdk, hye] at hy
          obtain ⟨j, hj⟩ : ∃ j : Nat, y - 1 = (j : Int) := ⟨(y - 1).toNat, by omega⟩
          have htl := HTL.out
          have hjt : (j : Int) < (t.length : Int) := by omega
          obtain ⟨ad, e, hct⟩ := Kd.at_int (Reads.C (HS.out.readR 6 rfl)).2 (j : Int) (by omega) hjt
          subst e
          rw [Int.toNat_natCast] at hct
          have hFy : rd t (j : Int) = F y := by rw [HF.out, ← hj]
          obtain ⟨fy, hfy⟩ : ∃ q, q = F y := ⟨_, rfl⟩
          rw [hFy, ← hfy] at hct
          have hwr : IntKind.i64.wrap (y - 1) = (j : Int) := by rw [← hj]; exact IntWalk.i64_in _ (by omega)
          have E1 : Aside0 ((relab F Y r k).set r (rowk.set k fy) = relab F Y r (k + 1)) := ⟨by
            have := relab_set F Y r k hlt (by rw [HROW.out]; exact hlt2)
            rw [HROW.out, ← hrke, ← hrdk, hye, ← hfy] at this
            exact this⟩
          have HST := Aside0.mk (hst fy)
          have hj0 : (0 : Int) ≤ (j : Int) := by omega
          clear hst hput hcut hne hrd hrdk hye hy hj hFy hfy hrke hrk htl hfg HS
          go_wp2
          go_region
          go_wp2
          go_roundg (row.length - (k + 1))
          case measure => omega
          case rel => exact ⟨k + 1, ok, by omega, by omega, by go_num, ⟨by rw [← E1.out]; exact HST.out.quiet (below_drew (Below.refl _ _))⟩⟩
        · have hk2 : k = row.length := by omega
          have hkz : ¬ (k : Int) < (rowk.length : Int) := by omega
          have E2 : Aside0 (relab F Y r k = relab F Y (r + 1) 0) := ⟨by
            have := relab_next F Y r hlt
            rw [HROW.out] at this
            rw [hk2]; exact this⟩
          clear hput hcut hne hrd hrke hrk hfg hlt2 hk2
          go_wp2
          go_roundg (Y.length - (r + 1))
          case measure => omega
          case rel => exact ⟨r + 1, ok, by omega, by omega, by go_num, ⟨by rw [← E2.out]; exact HS.out⟩⟩
    · have hr2 : r = Y.length := by omega
      subst hr2
      have hltz : ¬ (Y.length : Int) < (Y.length : Int) := by omega
      have yb7_0 : wr.cell? ⟨b7, 0, none⟩ = some (.slice none 0 0) := St.cellB HS.out 0 rfl 0 rfl
      have gb7_0 := blk_frozen (St.heapB HS.out 0 rfl) 0
      have yb7_1 : wr.cell? ⟨b7, 1, none⟩ = some (.slice Aq Y.length cq) := St.cellB HS.out 0 rfl 1 rfl
      have gb7_1 := blk_frozen (St.heapB HS.out 0 rfl) 1
      have yb6_0 : wr.cell? ⟨b6, 0, none⟩ = some (.slice Ai 0 ci) := St.cellB HS.out 1 rfl 0 rfl
      have gb6_0 := blk_frozen (St.heapB HS.out 1 rfl) 0
      have yb6_1 : wr.cell? ⟨b6, 1, none⟩ = some (.slice Ap X.length cp) := St.cellB HS.out 1 rfl 1 rfl
      have gb6_1 := blk_frozen (St.heapB HS.out 1 rfl) 1
      have yb3_0 : wr.cell? ⟨b3, 0, none⟩ = some (.slice none 0 0) := St.cellB HS.out 7 rfl 0 rfl
      have gb3_0 := blk_frozen (St.heapB HS.out 7 rfl) 0
      have yb3_1 : wr.cell? ⟨b3, 1, none⟩ = some (.slice none 0 0) := St.cellB HS.out 7 rfl 1 rfl
      have gb3_1 := blk_frozen (St.heapB HS.out 7 rfl) 1
      have yb2_0 : wr.cell? ⟨b2, 0, none⟩ = some (.slice none 0 0) := St.cellB HS.out 8 rfl 0 rfl
      have gb2_0 := blk_frozen (St.heapB HS.out 8 rfl) 0
      have yb2_1 : wr.cell? ⟨b2, 1, none⟩ = some (.slice none 0 0) := St.cellB HS.out 8 rfl 1 rfl
      have gb2_1 := blk_frozen (St.heapB HS.out 8 rfl) 1
      obtain ⟨m07, m70⟩ := St.neB HS.out 0 7 (by decide) rfl rfl
      obtain ⟨m08, m80⟩ := St.neB HS.out 0 8 (by decide) rfl rfl
      obtain ⟨m17, m71⟩ := St.neB HS.out 1 7 (by decide) rfl rfl
      obtain ⟨m18, m81⟩ := St.neB HS.out 1 8 (by decide) rfl rfl
      obtain ⟨m78, m87⟩ := St.neB HS.out 7 8 (by decide) rfl rfl
      go_wp2
      go_region
      go_wp2
      have HZ9 := Aside0.mk ((St.putB (St.putB (St.putB (St.putB HS.out 8 rfl 0 (.slice Ai 0 ci) rfl) 8 rfl 1 (.slice Ap X.length cp) rfl) 7 rfl 0 (.slice none 0 0) rfl) 7 rfl 1 (.slice Aq Y.length cq) rfl).quiet (below_drew (Below.refl _ _)))
      refine bodyPost_ret (results_cct rfl _ _ b2 b3 40 40 #[.slice Ai 0 ci, .slice Ap X.length cp] #[.slice none 0 0, .slice Aq Y.length cq] (0, 0) (0, 0) _ _ rfl (St.heapB HZ9.out 8 rfl) Try.underlying40 rfl (by kernel_rfl) rfl (St.heapB HZ9.out 7 rfl) Try.underlying40 rfl (by kernel_rfl)) rfl ?_
      rw [HE.out, ← relab_end]
      exact ⟨_, _, _, _, _, _, _, _, rfl, St.perm_ (St.addNil (St.less HZ9.out (.cons _ (.cons _ (.cons_cons _ (.cons_cons _ (.cons_cons _ (.cons _ (.cons _ (.cons _ (.cons _ .slnil))))))))))) (List.Perm.trans (List.Perm.swap _ _ _) (List.Perm.cons _ (List.Perm.swap _ _ _)))⟩
end Go.Proofs.Ytekjnjejgefbhaa.Q

set_option linter.unusedVariables false
set_option linter.unusedSimpArgs false
namespace Go.Proofs.Ytekjnjejgefbhaa.Q
open Go.RowKit Go.Proofs.Ytekjnjejgefbhaa.F Go.Proofs.YtekjnjejgefbhaaW.PrintWords Go.Proofs.YtekjnjejgefbhaaW.PrintLast Go.Proofs.YtekjnjejgefbhaaW.PrintMore
section
open Go.ChangeShapes Go.WideShapes
variable {H : Type} {enc : TypeId × Value → H} {P : Program} {W : World}
theorem open_ints_C {t e : TypeId} {k : IntKind} {fuel : Nat} {v : Value} {x : DataW H × List MemPlace} (ht : P.underlying t = some (.slice e)) (he : P.underlying e = some (.int k)) (hc : P.cellsOf e = 1)
    (h : DataW.trod enc P W 0 (fun _ => true) true fuel t [v] = some x) :
    ∃ (a : Option Addr) (l : List Int) (cap : Nat), v = .slice a l.length cap ∧ l.length ≤ cap ∧ l.length ≤ maxLen ∧ (Kd.int k).C W a l.length l ∧ ∀ n ∈ l, (Lit.int k n).wf = true := by
  rcases open_ints ht he hc h with ⟨hcs, _⟩ | ⟨a, len, cap, zs, hcs, _, hl, hm, hz, _, hcell, hw⟩
  · obtain rfl : v = .slice none 0 0 := by simpa using hcs
    exact ⟨none, [], 0, rfl, Nat.le_refl _, Nat.zero_le _, Kd.C_nil _ _, by simp⟩
  · obtain rfl : v = .slice (some a) len cap := by simpa using hcs
    simp only [if_true] at hz
    have hlen : (zs.take len).length = len := by rw [List.length_take, hz]; omega
    refine ⟨some a, zs.take len, cap, by rw [hlen], by rw [hlen]; exact hl, by rw [hlen]; omega, ⟨rfl, by rw [hlen]; unfold maxLen at hm; omega, fun _ => ⟨a, rfl, fun j p hj => ?_⟩⟩, fun n hn => hw n (List.mem_of_mem_take hn)⟩
    have hjl : j < len := by have := (List.getElem?_eq_some_iff.1 hj).1; omega
    refine ⟨[.int k p], rfl, rfl, fun i u hu => ?_⟩
    cases i with
    | zero =>
      obtain rfl : Value.int k p = u := by simpa using hu
      have := hcell j (by omega)
      rw [show j * (Kd.int k).sz + 0 = j from by show j * 1 + 0 = j; omega, this]
      rw [List.getElem?_take, if_pos hjl] at hj
      rw [List.getD_eq_getElem?_getD, hj]; rfl
    | succ i => simp at hu
theorem open_rows_C {t e q : TypeId} {k : IntKind} {fuel : Nat} {v : Value} {x : DataW H × List MemPlace} (ht : P.underlying t = some (.slice e)) (he : P.underlying e = some (.slice q)) (hq : P.underlying q = some (.int k))
    (ce : P.cellsOf e = 1) (cq : P.cellsOf q = 1) (h : DataW.trod enc P W 0 (fun _ => true) true fuel t [v] = some x) :
    ∃ (a : Option Addr) (l : List (List Int)) (cap : Nat), v = .slice a l.length cap ∧ l.length ≤ cap ∧ l.length ≤ maxLen ∧ (Kd.slice q (Kd.int k)).C W a l.length l ∧ (∀ r ∈ l, r.length ≤ maxLen) ∧ ∀ r ∈ l, ∀ n ∈ r, (Lit.int k n).wf = true := by
  rcases Go.Deep.open_int_rows ht he hq ce cq h with ⟨hcs, _⟩ | ⟨a, len, cap, A, L, C, Z, hcs, _, hl, hm, _, hrow⟩
  · obtain rfl : v = .slice none 0 0 := by simpa using hcs
    exact ⟨none, [], 0, rfl, Nat.le_refl _, Nat.zero_le _, Kd.C_nil _ _, by simp, by simp⟩
  · obtain rfl : v = .slice (some a) len cap := by simpa using hcs
    have hlen : ((List.range len).map fun r => (Z r).take (L r)).length = len := by simp
    have hel : ∀ r, r < len → ((Z r).take (L r)).length = L r := by
      intro r hr
      obtain ⟨_, h1, _, h3, _⟩ := hrow r (by omega)
      rw [List.length_take, h3]; omega
    refine ⟨some a, (List.range len).map fun r => (Z r).take (L r), cap, by rw [hlen], by rw [hlen]; exact hl, by rw [hlen]; omega, ⟨rfl, by rw [hlen]; unfold maxLen at hm; omega, fun _ => ⟨a, rfl, fun j p hj => ?_⟩⟩, ?_, ?_⟩
    · have hjl : j < len := by have := (List.getElem?_eq_some_iff.1 hj).1; omega
      have hp : (Z j).take (L j) = p := by
        rw [List.getElem?_map, List.getElem?_range hjl] at hj
        simpa using hj
      subst hp
      obtain ⟨h0, h1, h2, h3, h4, h5, h6⟩ := hrow j (by omega)
      have hL := hel j hjl
      refine ⟨[.slice (A j) (L j) (C j)], rfl, ⟨A j, C j, by rw [hL], by rw [hL]; exact h1, rfl, by rw [hL]; unfold maxLen at h2; omega, fun hpos => ?_⟩, fun i u hu => ?_⟩
      · rw [hL] at hpos
        cases hA : A j with
        | none => have := h5 hA; omega
        | some a' =>
          refine ⟨a', rfl, fun c y hc => ?_⟩
          have hcl : c < L j := by have := (List.getElem?_eq_some_iff.1 hc).1; omega
          refine ⟨[.int k y], rfl, rfl, fun i u hu => ?_⟩
          cases i with
          | zero =>
            obtain rfl : Value.int k y = u := by simpa using hu
            rw [show c * (Kd.int k).sz + 0 = c from by show c * 1 + 0 = c; omega, (h6 a' hA).2 c (by omega)]
            rw [List.getElem?_take, if_pos hcl] at hc
            rw [List.getD_eq_getElem?_getD, hc]; rfl
          | succ i => simp at hu
      · cases i with
        | zero =>
          obtain rfl : Value.slice (A j) (L j) (C j) = u := by simpa using hu
          rw [show j * (Kd.slice q (Kd.int k)).sz + 0 = j from by show j * 1 + 0 = j; omega]
          exact h0
        | succ i => simp at hu
    · intro r hr
      obtain ⟨j, hj, rfl⟩ := List.mem_map.1 hr
      have hjl := List.mem_range.1 hj
      obtain ⟨_, h1, h2, _⟩ := hrow j (by omega)
      rw [hel j hjl]; omega
    · intro r hr n hn
      obtain ⟨j, hj, rfl⟩ := List.mem_map.1 hr
      have hjl := List.mem_range.1 hj
      obtain ⟨_, _, _, _, h4, _⟩ := hrow j (by omega)
      exact h4 n (List.mem_of_mem_take hn)
end
end Go.Proofs.Ytekjnjejgefbhaa.Q
