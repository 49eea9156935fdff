/- Plain Lean: what the printed functions compute, topic by topic; conditions: those that each theorem names. -/
import Derived.Test.YtljjjdgnpnnmoaaF0
import Derived.Test.YtljjjdgnpnnmoaaF1
import Derived.Test.YtljjjdgnpnnmoaaF10
import Derived.Test.YtljjjdgnpnnmoaaF2
import Derived.Test.YtljjjdgnpnnmoaaF11
import Derived.Test.YtljjjdgnpnnmoaaF7
import Derived.Test.YtljjjdgnpnnmoaaF3
import Derived.Test.YtljjjdgnpnnmoaaF8
import Derived.Test.YtljjjdgnpnnmoaaF4
import Derived.Test.YtljjjdgnpnnmoaaF9
import Derived.Test.YtljjjdgnpnnmoaaF5
import Derived.Test.YtljjjdgnpnnmoaaF6
import Derived.Deep.Matrix
import Derived.Lib.SmallJoins
import Derived.ProofKit
import Derived.OpenShut
import Derived.ChangeSlices
set_option linter.unusedVariables false
set_option linter.unusedSimpArgs false
namespace Go.Proofs.Ytljjjdgnpnnmoaa.Q
open Go.RowKit Go.Proofs.Ytljjjdgnpnnmoaa.F Go.Proofs.YtljjjdgnpnnmoaaW.PrintWords Go.Proofs.YtljjjdgnpnnmoaaW.PrintLast Go.Proofs.YtljjjdgnpnnmoaaW.PrintMore
section
variable {α β : Type} {r : α}
theorem ev_pos {c : Prop} [Decidable c] {A B : Nat → Option α} (h : c) (hA : Ev A r) : Ev (fun k => if c then A k else B k) r := by
  simp only [if_pos h]; exact hA
theorem ev_neg {c : Prop} [Decidable c] {A B : Nat → Option α} (h : ¬ c) (hB : Ev B r) : Ev (fun k => if c then A k else B k) r := by
  simp only [if_neg h]; exact hB
theorem ev_ite {c : Prop} [Decidable c] {A B : Nat → Option α} (hA : c → Ev A r) (hB : ¬ c → Ev B r) : Ev (fun k => if c then A k else B k) r := by
  by_cases h : c
  · exact ev_pos h (hA h)
  · exact ev_neg h (hB h)
theorem ev_bindc {o : Option β} {b : β} {f : Nat → β → Option α} (h : o = some b) (hf : Ev (fun k => f k b) r) : Ev (fun k => o.bind (f k)) r := by
  subst h; exact hf
theorem ev_val {a : α} (h : a = r) : Ev (fun _ => some a) r := by subst h; exact ⟨0, fun _ _ => rfl⟩
theorem ev_eq {g : Nat → Option α} {a : α} (h : Ev g a) (e : a = r) : Ev g r := e ▸ h
end
theorem wrap_succ {n : Nat} (h : n < 9223372036854775807) : wrap64 ((n : Int) + 1) = ((n + 1 : Nat) : Int) := by unfold wrap64; omega
theorem wrap_id {i : Int} (h0 : -9223372036854775808 ≤ i) (h : i ≤ 9223372036854775807) : wrap64 i = i := by unfold wrap64; omega
theorem rd_nat (l : List Int) (i : Nat) : rd l (i : Int) = l.getD i 0 := by unfold rd; simp
theorem rd_eq (l : List Int) (i : Nat) (h : i < l.length) : rd l (i : Int) = l[i] := by rw [rd_nat]; simp [h]
theorem drop_rd (l : List Int) (i : Nat) (h : i < l.length) : l.drop i = rd l (i : Int) :: l.drop (i + 1) := by
  rw [rd_eq l i h]; exact List.drop_eq_getElem_cons h
theorem take_rd (l : List Int) (i : Nat) (h : i < l.length) : l.take (i + 1) = l.take i ++ [rd l (i : Int)] := by
  rw [rd_eq l i h]; exact List.take_succ_eq_append_getElem h
theorem rd_mem (l : List Int) (i : Nat) (h : i < l.length) : rd l (i : Int) ∈ l := by rw [rd_eq l i h]; exact List.getElem_mem h
theorem downTo {P : Nat → Prop} (n : Nat) (h0 : P n) (hs : ∀ i, i < n → P (i + 1) → P i) : ∀ i, i ≤ n → P i := by
  intro i hi
  obtain ⟨d, rfl⟩ : ∃ d, n = i + d := ⟨n - i, by omega⟩
  clear hi
  induction d generalizing i with
  | zero => simpa using h0
  | succ d ih => exact hs i (by omega) (ih (i + 1) (by rwa [show i + 1 + d = i + (d + 1) by omega]) (fun j hj => hs j (by omega)))
theorem rd_set (l : List Int) (i j : Nat) (v : Int) (h : i < l.length) : rd (l.set i v) (j : Int) = if i = j then v else rd l (j : Int) := by
  rw [rd_nat, rd_nat, List.getD_eq_getElem?_getD, List.getElem?_set]
  by_cases e : i = j
  · subst e; rw [if_pos rfl, if_pos h, if_pos rfl]; rfl
  · rw [if_neg e, if_neg e, List.getD_eq_getElem?_getD]
end Go.Proofs.Ytljjjdgnpnnmoaa.Q

set_option linter.unusedVariables false
set_option linter.unusedSimpArgs false
namespace Go.Proofs.Ytljjjdgnpnnmoaa.Q
open Go.RowKit Go.Proofs.Ytljjjdgnpnnmoaa.F Go.Proofs.YtljjjdgnpnnmoaaW.PrintWords Go.Proofs.YtljjjdgnpnnmoaaW.PrintLast Go.Proofs.YtljjjdgnpnnmoaaW.PrintMore
structure Ob where
  ok : Nat → Prop
  P : World → Prop
def Firm (o : Ob) : Prop := ∀ W W' : World, o.P W → (∀ k, o.ok k → k < W.heap.size → W'.heap[k]? = W.heap[k]?) → o.P W'
structure St (w W : World) (L : List Ob) : Prop where
  below : Below w.heap.size w W
  own : ∀ o ∈ L, (∀ k, o.ok k → w.heap.size ≤ k ∧ k < W.heap.size) ∧ o.P W ∧ Firm o
  apart : L.Pairwise (fun a b => ∀ k, a.ok k → ¬ b.ok k)
def obR {α : Type} (d : Kd α) (t : Nat) (w : World) (ok : Nat → Prop) (v : Value) (xs : List α) : Ob := ⟨ok, fun W => Kd.R d t W w.heap.size ok v xs⟩
def obS {α : Type} (d : Kd α) (t : Nat) (w : World) (ok : Nat → Prop) (v : Value) (xs : List α) : Ob := ⟨ok, fun W => Kd.S d t W w.heap.size ok v xs⟩
section
variable {α β : Type} {d : Kd α} {d' : Kd β} {t t' : Nat} {w W W' : World} {ok ok' okq : Nat → Prop} {v v' : Value} {xs : List α} {ys : List β} {L L' : List Ob} {o o' : Ob}
theorem firmR : Firm (obR d t w ok v xs) := fun _ _ h hm => Kd.R_step h hm
theorem firmS : Firm (obS d t w ok v xs) := fun _ _ h hm => Kd.S_step h hm
theorem St.start (w : World) : St w w [] := ⟨Below.refl _ _, fun _ h => by simp at h, List.Pairwise.nil⟩
theorem St.quiet (h : St w W L) (hb : Below W.heap.size W W') : St w W' L := by
  have hs := h.below.size
  refine ⟨below_then h.below hs hb, fun o ho => ?_, h.apart⟩
  obtain ⟨h1, h2, h3⟩ := h.own o ho
  exact ⟨fun k hk => ⟨(h1 k hk).1, Nat.lt_of_lt_of_le (h1 k hk).2 hb.size⟩, h3 W W' h2 (fun k _ hk => hb.block k hk), h3⟩
theorem St.drawn (h : St w W L) (hd : Drawn0 W W') : St w W' L := h.quiet hd.below
theorem St.add (h : St w W L) (hb : Below W.heap.size W W') (hn : ∀ k, o.ok k → W.heap.size ≤ k ∧ k < W'.heap.size) (hP : o.P W') (hf : Firm o) : St w W' (o :: L) := by
  have hq := h.quiet hb
  have hs := h.below.size
  refine ⟨hq.below, fun p hp => ?_, List.Pairwise.cons (fun p hp k hk hk2 => ?_) hq.apart⟩
  · rcases List.mem_cons.1 hp with rfl | hp
    · exact ⟨fun k hk => ⟨Nat.le_trans hs (hn k hk).1, (hn k hk).2⟩, hP, hf⟩
    · exact hq.own p hp
  · have := (h.own p hp).1 k hk2
    have := hn k hk
    omega
theorem St.addR (h : St w W L) (hb : Below W.heap.size W W') (hr : Kd.R d t W' W.heap.size ok v xs) : ∃ ok1, St w W' (obR d t w ok1 v xs :: L) :=
  ⟨_, h.add (o := obR d t w (fun k => W.heap.size ≤ k ∧ k < W'.heap.size) v xs) hb (fun _ hk => hk) (Kd.R_mono (Kd.R_lower (Kd.R_bound hr) h.below.size) (fun k hk => ⟨hk.2.1, hk.2.2.1⟩)) firmR⟩
theorem St.addS (h : St w W L) (hb : Below W.heap.size W W') (hr : Kd.S d t W' W.heap.size ok v xs) : ∃ ok1, St w W' (obS d t w ok1 v xs :: L) :=
  ⟨_, h.add (o := obS d t w (fun k => W.heap.size ≤ k ∧ k < W'.heap.size) v xs) hb (fun _ hk => hk) (Kd.S_mono (Kd.S_lower (Kd.S_bound hr) h.below.size) (fun k hk => ⟨hk.2.1, hk.2.2.1⟩)) firmS⟩
theorem St.add2 (h : St w W L) (hb : Below W.heap.size W W') (hn : ∀ k, o.ok k → W.heap.size ≤ k ∧ k < W'.heap.size) (hP : o.P W') (hf : Firm o) (hn' : ∀ k, o'.ok k → W.heap.size ≤ k ∧ k < W'.heap.size) (hP' : o'.P W') (hf' : Firm o')
    (ha : ∀ k, o.ok k → ¬ o'.ok k) : St w W' (o :: o' :: L) := by
  have h1 := h.add hb hn' hP' hf'
  have hs := h.below.size
  refine ⟨h1.below, fun p hp => ?_, List.Pairwise.cons (fun p hp k hk hk2 => ?_) h1.apart⟩
  · rcases List.mem_cons.1 hp with rfl | hp
    · exact ⟨fun k hk => ⟨Nat.le_trans hs (hn k hk).1, (hn k hk).2⟩, hP, hf⟩
    · exact h1.own p hp
  · rcases List.mem_cons.1 hp with rfl | hp
    · exact ha k hk hk2
    · have := (h.own p hp).1 k hk2
      have := hn k hk
      omega
theorem St.addRS (hE : d.E = []) (h : St w W L) (hb : Below W.heap.size W W') (hr : Kd.R d t W' W.heap.size (fun _ => True) v xs) (hr' : Kd.S d' t' W' W.heap.size (fun k => some k ≠ v.ownBlock) v' ys) : ∃ ok1 ok2, St w W' (obR d t w ok1 v xs :: obS d' t' w ok2 v' ys :: L) := by
  have hs := h.below.size
  refine ⟨_, _, h.add2 (o := obR d t w (fun k => some k = v.ownBlock ∧ W.heap.size ≤ k ∧ k < W'.heap.size) v xs) (o' := obS d' t' w (fun k => some k ≠ v.ownBlock ∧ W.heap.size ≤ k ∧ k < W'.heap.size) v' ys) hb (fun _ hk => hk.2) ?_ firmR (fun _ hk => hk.2) ?_ firmS (fun _ hk hk2 => hk2.1 hk.1)⟩
  · exact Kd.R_mono (Kd.R_lower (Kd.R_bound (Kd.R_tight hE hr)) hs) (fun k hk => ⟨hk.1, hk.2.1, hk.2.2.1⟩)
  · exact Kd.S_mono (Kd.S_lower (Kd.S_bound hr') hs) (fun k hk => ⟨hk.1, hk.2.1, hk.2.2.1⟩)
theorem St.get (h : St w W L) (i : Nat) (hi : L[i]? = some o) : o.P W := (h.own o (List.mem_of_getElem? hi)).2.1
theorem St.mark (h : St w W L) (i : Nat) (hi : L[i]? = some o) (he : o'.ok = o.ok) (hf : Firm o') (hb : Below w.heap.size w W') (hk : Kept W W' o.ok) (hP : o'.P W') (hL : L.set i o' = L') : St w W' L' := by
  subst hL
  have hil := (List.getElem?_eq_some_iff.1 hi).1
  have hio := (List.getElem?_eq_some_iff.1 hi).2
  have hap : ∀ a b, a < L.length → (hb : b < L.length) → a ≠ b → ∀ x y, L[a]? = some x → L[b]? = some y → ∀ k, x.ok k → ¬ y.ok k := by
    intro a b ha hb hne x y hx hy k hxk hyk
    have hp := List.pairwise_iff_getElem.1 h.apart
    rcases Nat.lt_or_gt_of_ne hne with hlt | hlt
    · have := hp a b ha hb hlt k
      rw [List.getElem?_eq_getElem ha] at hx
      rw [List.getElem?_eq_getElem hb] at hy
      injection hx with hx; injection hy with hy
      rw [hx, hy] at this
      exact this hxk hyk
    · have := hp b a hb ha hlt k
      rw [List.getElem?_eq_getElem ha] at hx
      rw [List.getElem?_eq_getElem hb] at hy
      injection hx with hx; injection hy with hy
      rw [hx, hy] at this
      exact this hyk hxk
  refine ⟨hb, fun p hp => ?_, List.pairwise_iff_getElem.2 fun a b ha hb' hlt k => ?_⟩
  · obtain ⟨j, hj, rfl⟩ := List.mem_iff_getElem.1 hp
    rw [List.length_set] at hj
    by_cases hji : i = j
    · subst hji
      rw [List.getElem_set_self]
      have h1 := (h.own o (List.mem_of_getElem? hi)).1
      exact ⟨fun k hk' => ⟨(h1 k (he ▸ hk')).1, Nat.lt_of_lt_of_le (h1 k (he ▸ hk')).2 hk.1⟩, hP, hf⟩
    · rw [List.getElem_set_ne hji]
      obtain ⟨h1, h2, h3⟩ := h.own L[j] (List.getElem_mem hj)
      exact ⟨fun k hk' => ⟨(h1 k hk').1, Nat.lt_of_lt_of_le (h1 k hk').2 hk.1⟩, h3 W W' h2 (fun k hk' hlt => hk.2 k hlt (hap j i hj hil (Ne.symm hji) _ _ (List.getElem?_eq_getElem hj) hi k hk')), h3⟩
  · rw [List.length_set] at ha hb'
    have hx : ∀ j (hj : j < L.length) (hj' : j < (L.set i o').length), ((L.set i o')[j]).ok = (L[j]).ok := by
      intro j hj hj'
      by_cases hji : i = j
      · subst hji; rw [List.getElem_set_self, he, hio]
      · rw [List.getElem_set_ne hji]
    rw [hx a ha, hx b hb']
    exact List.pairwise_iff_getElem.1 h.apart a b ha hb' hlt k
def Reads (d : Kd α) (W : World) (v : Value) (xs : List α) : Prop := ∃ A c, v = .slice A xs.length c ∧ xs.length ≤ c ∧ d.C W A xs.length xs
theorem St.readR (h : St w W L) (i : Nat) (hi : L[i]? = some (obR d t w ok v xs)) : Reads d W v xs := Kd.R_reads (h.get i hi)
theorem St.readS (h : St w W L) (i : Nat) (hi : L[i]? = some (obS d t w ok v xs)) : Reads d W v xs := Kd.R_reads (Kd.S_R (h.get i hi))
theorem St.came (h : St w W L) {A : Option Addr} {c : Nat} (hr : d.C w A xs.length xs) (hc : xs.length ≤ c) : Reads d W (.slice A xs.length c) xs := ⟨A, c, rfl, hc, Kd.C_below hr h.below⟩
end
end Go.Proofs.Ytljjjdgnpnnmoaa.Q

set_option linter.unusedVariables false
set_option linter.unusedSimpArgs false
namespace Go.Proofs.Ytljjjdgnpnnmoaa.Q
open Go.RowKit Go.Proofs.Ytljjjdgnpnnmoaa.F Go.Proofs.YtljjjdgnpnnmoaaW.PrintWords Go.Proofs.YtljjjdgnpnnmoaaW.PrintLast Go.Proofs.YtljjjdgnpnnmoaaW.PrintMore
theorem eqIntS_l0 (a b : List Int) (hl : a.length = b.length) (hb : a.length ≤ 1152921504606846976) : ∀ (d i : Nat), i + d = a.length → Ev (fun k => laws_eqIntS.l0 k a b (i : Int)) (decide (a.drop i = b.drop i)) := by
  intro d
  induction d with
  | zero =>
    intro i h
    refine Ev.step (fun k => by rw [laws_eqIntS.l0]) ?_
    refine ev_neg (by omega) (ev_val ?_)
    rw [List.drop_of_length_le (by omega), List.drop_of_length_le (by omega)]
    simp
  | succ d ih =>
    intro i h
    refine Ev.step (fun k => by rw [laws_eqIntS.l0]) ?_
    refine ev_pos (by omega) (ev_pos (by omega) (ev_pos (by omega) (ev_ite (fun he => ?_) (fun he => ev_val ?_))))
    · rw [wrap_succ (by omega)]
      refine ev_eq (ih (i + 1) (by omega)) ?_
      rw [drop_rd a i (by omega), drop_rd b i (by omega), he]
      simp
    · rw [drop_rd a i (by omega), drop_rd b i (by omega)]
      simp [he]
theorem eqIntS_ev (a b : List Int) (hb : a.length ≤ 1152921504606846976) : Ev (fun k => laws_eqIntS.f k a b) (decide (a = b)) := by
  unfold laws_eqIntS.f
  refine ev_ite (fun h => ?_) (fun h => ev_val ?_)
  · have := eqIntS_l0 a b (by omega) hb a.length 0 (by omega)
    simpa using this
  · have : a ≠ b := fun e => h (by rw [e])
    simp [this]
end Go.Proofs.Ytljjjdgnpnnmoaa.Q

set_option linter.unusedVariables false
set_option linter.unusedSimpArgs false
namespace Go.Proofs.Ytljjjdgnpnnmoaa.Q
open Go.RowKit Go.Proofs.Ytljjjdgnpnnmoaa.F Go.Proofs.YtljjjdgnpnnmoaaW.PrintWords Go.Proofs.YtljjjdgnpnnmoaaW.PrintLast Go.Proofs.YtljjjdgnpnnmoaaW.PrintMore
theorem toIntS_l0 (l : List Int) (hl : l.length ≤ 1048576) : ∀ (d i : Nat), i + d = l.length → Ev (fun k => laws_toIntS.l0 k l (l.take i ++ List.replicate d 0) (i : Int)) l := by
  intro d
  induction d with
  | zero =>
    intro i h
    refine Ev.step (fun k => by rw [laws_toIntS.l0]) ?_
    refine ev_neg (by omega) (ev_val ?_)
    simp [List.take_of_length_le (show l.length ≤ i by omega)]
  | succ d ih =>
    intro i h
    have hi : i < l.length := by omega
    refine Ev.step (fun k => by rw [laws_toIntS.l0]) ?_
    refine ev_pos (by omega) (ev_pos (by omega) (ev_pos (by simp; omega) ?_))
    have e : (l.take i ++ List.replicate (d + 1) 0).set (i : Int).toNat (rd l (i : Int)) = l.take (i + 1) ++ List.replicate d 0 := by
      rw [take_rd l i hi, List.set_append_right _ _ (by simp; omega)]
      simp [List.replicate_succ, Nat.min_eq_left (Nat.le_of_lt hi)]
    rw [e, wrap_succ (by omega)]
    exact ih (i + 1) (by omega)
theorem toIntS_ev (l : List Int) (hl : l.length ≤ 1048576) : Ev (fun k => laws_toIntS.f k l) l := by
  unfold laws_toIntS.f
  refine ev_pos (by omega) (ev_pos (by simp; omega) ?_)
  have := toIntS_l0 l hl l.length 0 (by omega)
  simpa using this
end Go.Proofs.Ytljjjdgnpnnmoaa.Q

set_option linter.unusedVariables false
set_option linter.unusedSimpArgs false
namespace Go.Proofs.Ytljjjdgnpnnmoaa.Q
open Go.RowKit Go.Proofs.Ytljjjdgnpnnmoaa.F Go.Proofs.YtljjjdgnpnnmoaaW.PrintWords Go.Proofs.YtljjjdgnpnnmoaaW.PrintLast Go.Proofs.YtljjjdgnpnnmoaaW.PrintMore
end Go.Proofs.Ytljjjdgnpnnmoaa.Q

set_option linter.unusedVariables false
set_option linter.unusedSimpArgs false
namespace Go.Proofs.Ytljjjdgnpnnmoaa.Q
open Go.RowKit Go.Proofs.Ytljjjdgnpnnmoaa.F Go.Proofs.YtljjjdgnpnnmoaaW.PrintWords Go.Proofs.YtljjjdgnpnnmoaaW.PrintLast Go.Proofs.YtljjjdgnpnnmoaaW.PrintMore
theorem rows_nat (l : List (List Int)) (i : Nat) : rd_L1 l (i : Int) = l.getD i [] := by unfold rd_L1; simp
theorem rows_eq (l : List (List Int)) (i : Nat) (h : i < l.length) : rd_L1 l (i : Int) = l[i] := by rw [rows_nat]; simp [h]
theorem drop_rows (l : List (List Int)) (i : Nat) (h : i < l.length) : l.drop i = rd_L1 l (i : Int) :: l.drop (i + 1) := by
  rw [rows_eq l i h]; exact List.drop_eq_getElem_cons h
theorem take_rows (l : List (List Int)) (i : Nat) (h : i < l.length) : l.take (i + 1) = l.take i ++ [rd_L1 l (i : Int)] := by
  rw [rows_eq l i h]; exact List.take_succ_eq_append_getElem h
theorem rows_mem (l : List (List Int)) (i : Nat) (h : i < l.length) : rd_L1 l (i : Int) ∈ l := by rw [rows_eq l i h]; exact List.getElem_mem h
def isum : List Int → Int
  | [] => 0
  | x :: l => x + isum l
def bulk : List (List Int) → Nat
  | [] => 0
  | r :: m => r.length + bulk m
theorem isum_nonneg {l : List Int} (h : ∀ x ∈ l, 0 ≤ x) : 0 ≤ isum l := by
  induction l with
  | nil => exact Int.le_refl _
  | cons x l ih =>
    have h1 := h x (by simp)
    have h2 := ih (fun y hy => h y (by simp [hy]))
    unfold isum; omega
theorem isum_append (a b : List Int) : isum (a ++ b) = isum a + isum b := by
  induction a with
  | nil => simp [isum]
  | cons x l ih => simp [isum, ih]; omega
theorem bulk_mem {m : List (List Int)} {r : List Int} (h : r ∈ m) : r.length ≤ bulk m := by
  induction m with
  | nil => simp at h
  | cons q m ih =>
    unfold bulk
    rcases List.mem_cons.1 h with rfl | h
    · omega
    · have := ih h; omega
end Go.Proofs.Ytljjjdgnpnnmoaa.Q

set_option linter.unusedVariables false
set_option linter.unusedSimpArgs false
namespace Go.Proofs.Ytljjjdgnpnnmoaa.Q
open Go.RowKit Go.Proofs.Ytljjjdgnpnnmoaa.F Go.Proofs.YtljjjdgnpnnmoaaW.PrintWords Go.Proofs.YtljjjdgnpnnmoaaW.PrintLast Go.Proofs.YtljjjdgnpnnmoaaW.PrintMore
theorem szIntS_eq (l : List Int) (left : Int) (h0 : 0 ≤ left) (h1 : left ≤ 1048576) (hm : l.length ≤ maxLen) : laws_szIntS.f l left = some (if left - l.length < 0 then -1 else left - l.length) := by
  unfold maxLen at hm
  unfold laws_szIntS.f
  rw [wrap_id (by omega) (by omega)]
  split <;> rfl
theorem szIntSS_ev (l : List (List Int)) (left : Int) (h0 : 0 ≤ left) (h1 : left ≤ 1048576) (hm : l.length ≤ maxLen) (hr : ∀ r ∈ l, r.length ≤ maxLen) :
    ∃ r, Ev (fun k => laws_szIntSS.f k l left) r ∧ (r < 0 ∨ (0 ≤ r ∧ r = left - (l.length : Int) - (bulk l : Int))) := by
  unfold maxLen at hm
  unfold laws_szIntSS.f
  rw [wrap_id (by omega) (by omega)]
  by_cases hneg : left - (l.length : Int) < 0
  · exact ⟨-1, ev_pos hneg (ev_val rfl), .inl (by omega)⟩
  · have key : ∀ i, i ≤ l.length → ∀ left : Int, 0 ≤ left → left ≤ 1048576 → ∃ r, Ev (fun k => laws_szIntSS.l0 k l left (i : Int)) r ∧ (r < 0 ∨ (0 ≤ r ∧ r = left - (bulk (l.drop i) : Int))) := by
      refine downTo l.length ?_ ?_
      · intro left a b
        refine ⟨left, ?_, .inr ⟨a, by rw [List.drop_length]; simp [bulk]⟩⟩
        refine Ev.step (fun k => by rw [laws_szIntSS.l0]) ?_
        exact ev_neg (by omega) (ev_val rfl)
      · intro i hi ih left a b
        have hrow := hr _ (rows_mem l i hi)
        by_cases hn : left - ((rd_L1 l (i : Int)).length : Int) < 0
        · refine ⟨-1, ?_, .inl (by omega)⟩
          refine Ev.step (fun k => by rw [laws_szIntSS.l0]) ?_
          exact ev_pos (by omega) (ev_pos (by omega) (ev_bindc (szIntS_eq _ _ a b hrow) (ev_pos (by rw [if_pos hn]; omega) (ev_val rfl))))
        · obtain ⟨r, hev, hp⟩ := ih (left - ((rd_L1 l (i : Int)).length : Int)) (by omega) (by omega)
          refine ⟨r, ?_, ?_⟩
          · refine Ev.step (fun k => by rw [laws_szIntSS.l0]) ?_
            refine ev_pos (by omega) (ev_pos (by omega) (ev_bindc (szIntS_eq _ _ a b hrow) (ev_neg (by rw [if_neg hn]; omega) ?_)))
            rw [if_neg hn, wrap_succ (by omega)]
            exact hev
          · rw [drop_rows l i hi]
            unfold bulk
            omega
    obtain ⟨r, hev, hp⟩ := key 0 (by omega) (left - (l.length : Int)) (by omega) (by omega)
    rw [List.drop_zero] at hp
    exact ⟨r, ev_neg hneg hev, hp⟩
theorem toIntSS_ev (l : List (List Int)) (hl : l.length ≤ 1048576) (hr : ∀ r ∈ l, r.length ≤ 1048576) : Ev (fun k => laws_toIntSS.f k l) l := by
  unfold laws_toIntSS.f
  refine ev_pos (by omega) (ev_pos (by simp; omega) ?_)
  have key : ∀ (d i : Nat), i + d = l.length → Ev (fun k => laws_toIntSS.l0 k l (l.take i ++ List.replicate d []) (i : Int)) l := by
    intro d
    induction d with
    | zero =>
      intro i h
      refine Ev.step (fun k => by rw [laws_toIntSS.l0]) ?_
      refine ev_neg (by omega) (ev_val ?_)
      simp [List.take_of_length_le (show l.length ≤ i by omega)]
    | succ d ih =>
      intro i h
      have hi : i < l.length := by omega
      refine Ev.step (fun k => by rw [laws_toIntSS.l0]) ?_
      refine ev_pos (by omega) (ev_pos (by omega) (Ev.bind (toIntS_ev _ (hr _ (rows_mem l i hi))) (ev_pos (by simp; omega) ?_)))
      have e : (l.take i ++ List.replicate (d + 1) []).set (i : Int).toNat (rd_L1 l (i : Int)) = l.take (i + 1) ++ List.replicate d [] := by
        rw [take_rows l i hi, List.set_append_right _ _ (by simp; omega)]
        simp [List.replicate_succ, Nat.min_eq_left (Nat.le_of_lt hi)]
      rw [e, wrap_succ (by omega)]
      exact ih (i + 1) (by omega)
  have := key l.length 0 (by omega)
  simpa using this
theorem eqIntSS_ev (a b : List (List Int)) (hl : a.length ≤ 1152921504606846976) (hr : ∀ r ∈ a, r.length ≤ 1152921504606846976) : Ev (fun k => laws_eqIntSS.f k a b) (decide (a = b)) := by
  unfold laws_eqIntSS.f
  refine ev_ite (fun h => ?_) (fun h => ev_val ?_)
  · have := downTo (P := fun i => Ev (fun k => laws_eqIntSS.l0 k a b (i : Int)) (decide (a.drop i = b.drop i))) a.length ?_ ?_ 0 (by omega)
    · simpa using this
    · refine Ev.step (fun k => by rw [laws_eqIntSS.l0]) ?_
      refine ev_neg (by omega) (ev_val ?_)
      rw [List.drop_of_length_le (by omega), List.drop_of_length_le (by omega)]
      simp
    · intro i hi ih
      refine Ev.step (fun k => by rw [laws_eqIntSS.l0]) ?_
      refine ev_pos (by omega) (ev_pos (by omega) (ev_pos (by omega) (Ev.bind (eqIntS_ev _ _ (hr _ (rows_mem a i hi))) (ev_ite (fun he => ?_) (fun he => ev_val ?_)))))
      · rw [wrap_succ (by omega)]
        refine ev_eq ih ?_
        rw [decide_eq_true_eq] at he
        rw [drop_rows a i (by omega), drop_rows b i (by omega), he]
        simp
      · rw [decide_eq_true_eq] at he
        rw [drop_rows a i (by omega), drop_rows b i (by omega)]
        simp [he]
  · have : a ≠ b := fun e => h (by rw [e])
    simp [this]
end Go.Proofs.Ytljjjdgnpnnmoaa.Q

set_option linter.unusedVariables false
set_option linter.unusedSimpArgs false
namespace Go.Proofs.Ytljjjdgnpnnmoaa.Q
open Go.RowKit Go.Proofs.Ytljjjdgnpnnmoaa.F Go.Proofs.YtljjjdgnpnnmoaaW.PrintWords Go.Proofs.YtljjjdgnpnnmoaaW.PrintLast Go.Proofs.YtljjjdgnpnnmoaaW.PrintMore
def marks (m n : Nat) : List Int := (List.range n).map (fun i => ((m + i : Nat) : Int))
theorem marks_length (m n : Nat) : (marks m n).length = n := by simp [marks]
theorem marks_succ (m n : Nat) : marks m (n + 1) = marks m n ++ [((m + n : Nat) : Int)] := by simp [marks, List.range_succ]
theorem marks_rd (m n i : Nat) (h : i < n) : rd (marks m n) (i : Int) = ((m + i : Nat) : Int) := by
  rw [rd_eq _ i (by rw [marks_length]; exact h)]; simp [marks]
theorem markIntS_ev (l : List Int) (m : Nat) (hl : l.length ≤ 1152921504606846976) (hm : m ≤ 2305843009213693952) : Ev (fun k => laws_markIntS.f k l (m : Int)) (((m + l.length : Nat) : Int), marks m l.length) := by
  unfold laws_markIntS.f
  refine downTo (P := fun i => Ev (fun k => laws_markIntS.l0 k (marks m i ++ l.drop i) ((m + i : Nat) : Int) (i : Int)) (((m + l.length : Nat) : Int), marks m l.length)) l.length ?_ ?_ 0 (by omega)
  · refine Ev.step (fun k => by rw [laws_markIntS.l0]) ?_
    rw [List.drop_length, List.append_nil]
    exact ev_neg (by rw [marks_length]; omega) (ev_val rfl)
  · intro i hi ih
    refine Ev.step (fun k => by rw [laws_markIntS.l0]) ?_
    refine ev_pos (by simp [marks_length]; omega) (ev_pos (by omega) ?_)
    have e : (marks m i ++ l.drop i).set (i : Int).toNat ((m + i : Nat) : Int) = marks m (i + 1) ++ l.drop (i + 1) := by
      rw [Int.toNat_natCast, List.set_append_right _ _ (by rw [marks_length]; omega), marks_length, Nat.sub_self, drop_rd l i hi, marks_succ]
      simp
    rw [e, wrap_succ (by omega), wrap_succ (by omega)]
    exact ih
theorem heldIntS_ev (m n : Nat) (hl : n ≤ 1152921504606846976) (hm : m ≤ 2305843009213693952) : Ev (fun k => laws_heldIntS.f k (marks m n) (m : Int)) ((m + n : Nat) : Int) := by
  unfold laws_heldIntS.f
  refine downTo (P := fun i => Ev (fun k => laws_heldIntS.l0 k (marks m n) ((m + i : Nat) : Int) (i : Int)) ((m + n : Nat) : Int)) n ?_ ?_ 0 (by omega)
  · refine Ev.step (fun k => by rw [laws_heldIntS.l0]) ?_
    exact ev_neg (by rw [marks_length]; omega) (ev_val rfl)
  · intro i hi ih
    refine Ev.step (fun k => by rw [laws_heldIntS.l0]) ?_
    refine ev_pos (by rw [marks_length]; omega) (ev_pos (by omega) (ev_pos (marks_rd m n i hi) ?_))
    rw [wrap_succ (by omega), wrap_succ (by omega)]
    exact ih
end Go.Proofs.Ytljjjdgnpnnmoaa.Q

set_option linter.unusedVariables false
set_option linter.unusedSimpArgs false
namespace Go.Proofs.Ytljjjdgnpnnmoaa.Q
open Go.RowKit Go.Proofs.Ytljjjdgnpnnmoaa.F Go.Proofs.YtljjjdgnpnnmoaaW.PrintWords Go.Proofs.YtljjjdgnpnnmoaaW.PrintLast Go.Proofs.YtljjjdgnpnnmoaaW.PrintMore
def rowMarks (m : Nat) : List (List Int) → List (List Int)
  | [] => []
  | r :: l => marks m r.length :: rowMarks (m + r.length) l
theorem rowMarks_length (l : List (List Int)) (m : Nat) : (rowMarks m l).length = l.length := by
  induction l generalizing m with
  | nil => rfl
  | cons r l ih => simp [rowMarks, ih]
theorem bulk_append (a b : List (List Int)) : bulk (a ++ b) = bulk a + bulk b := by
  induction a with
  | nil => simp [bulk]
  | cons r l ih => simp only [List.cons_append, bulk, ih]; omega
theorem rowMarks_append (a b : List (List Int)) (m : Nat) : rowMarks m (a ++ b) = rowMarks m a ++ rowMarks (m + bulk a) b := by
  induction a generalizing m with
  | nil => simp [rowMarks, bulk]
  | cons r l ih => simp only [List.cons_append, rowMarks, bulk, ih, Nat.add_assoc]
theorem rowMarks_step (l : List (List Int)) (m i : Nat) (h : i < l.length) :
    (rowMarks m (l.take i) ++ l.drop i).set i (marks (m + bulk (l.take i)) (l.getD i []).length) = rowMarks m (l.take (i + 1)) ++ l.drop (i + 1) := by
  have e : l.getD i [] = l[i] := by rw [List.getD_eq_getElem?_getD, List.getElem?_eq_getElem h]; rfl
  rw [e, List.take_succ_eq_append_getElem h, rowMarks_append, List.set_append_right _ _ (by rw [rowMarks_length, List.length_take]; omega), rowMarks_length, List.length_take, Nat.min_eq_left (Nat.le_of_lt h), Nat.sub_self]
  simp only [rowMarks, List.append_assoc, List.cons_append, List.nil_append]
  rw [show l.drop i = l[i] :: l.drop (i + 1) from List.drop_eq_getElem_cons h]
  rfl
set_option maxHeartbeats 4000000 in
set_option maxRecDepth 100000 in
theorem markIntSS_calls (P : Nat → Prop) (u : Value) (l : List (List Int)) (m : Nat) (w0 w : World) (hB : Below w0.heap.size w0 w) (hS : Kd.S (Kd.slice 3 (Kd.int .i64)) 22 w w0.heap.size P u l)
    (hb : bulk l ≤ 1152921504606846976) (hm : m ≤ 1152921504606846976) (hl : l.length ≤ 1152921504606846976) :
    Calls Try.prog 42 #[u, .int .i64 (m : Int)] w fun e w' => e = .returned (.int .i64 ((m + bulk l : Nat) : Int)) ∧ Kd.S (Kd.slice 3 (Kd.int .i64)) 22 w' w0.heap.size P u (rowMarks m l) ∧ Below w0.heap.size w0 w' ∧ Kept w w' P := by
  have HS := Aside0.mk hS
  have HB := Aside0.mk hB
  obtain ⟨A, c, hu⟩ := Kd.R_slice (Kd.S_R hS)
  subst hu
  clear hS hB
  go_enter Try.func42, Try.ntmps42
  go_wp2
  go_loopg [1, 5] l.length (fun kq v1 v5 wr => ∃ i j : Nat, i ≤ l.length ∧ l.length - i ≤ kq ∧ Aside0 (j = m + bulk (l.take i)) ∧ v1 = .int .i64 (j : Int) ∧ v5 = .int .i64 i ∧ Aside0 (Kd.S (Kd.slice 3 (Kd.int .i64)) 22 wr w0.heap.size P (.slice A l.length c) (rowMarks m (l.take i) ++ l.drop i)) ∧ Aside0 (Below w0.heap.size w0 wr) ∧ Aside0 (Kept w wr P))
  case atStart => exact ⟨0, m, Nat.zero_le _, by omega, ⟨by simp [bulk]⟩, rfl, rfl, HS, HB, ⟨Kept.refl _ _⟩⟩
  case round =>
    clear HS HB
    obtain ⟨i, j, hi, hg, HJ, rfl, rfl, HS, HB, HK⟩ := hrel
    by_cases hlt : i < l.length
    · have hltz : (i : Int) < (l.length : Int) := by omega
      have hx : (rowMarks m (l.take i) ++ l.drop i).getD (i : Int).toNat [] = l.getD i [] := by
        rw [Int.toNat_natCast, List.getD_eq_getElem?_getD, List.getElem?_append_right (by rw [rowMarks_length, List.length_take]; omega), rowMarks_length, List.length_take, Nat.min_eq_left hi, Nat.sub_self, List.getElem?_drop, Nat.add_zero, List.getD_eq_getElem?_getD]
      obtain ⟨g, cc, e0⟩ : ∃ g cc, (Value.slice A l.length c) = .slice (some ⟨g, 0, none⟩) l.length cc := by
        obtain ⟨g, cc, e0, _⟩ := Kd.R_form (Kd.S_R HS.out) (by simp [rowMarks_length]; omega)
        injection e0 with ea el ec
        exact ⟨g, c, by rw [ea]⟩
      injection e0 with ea _ ec
      subst ea ec
      obtain ⟨oki, cs, hcl, hM, hcc, hfr, hoki, hH⟩ := Kd.S_elem HS.out [] (i : Int) (by omega) (by omega)
      rw [hx] at hM
      obtain ⟨v, rfl, hR⟩ := hM
      obtain ⟨A1, c1, e1⟩ := Kd.R_slice hR
      subst e1
      have hx1 := hcc 0 _ rfl
      rw [show (i : Int).toNat * (Kd.slice 3 (Kd.int .i64)).sz + 0 = i from by show (i : Int).toNat * 1 + 0 = i; omega] at hx1
      have hlb : (l.getD i []).length + bulk (l.take i) ≤ bulk l := by
        have e : l.getD i [] = l[i] := by rw [List.getD_eq_getElem?_getD, List.getElem?_eq_getElem hlt]; rfl
        have h1 := bulk_append (l.take (i + 1)) (l.drop (i + 1))
        rw [List.take_append_drop, List.take_succ_eq_append_getElem hlt, bulk_append] at h1
        rw [e]
        simp only [bulk] at h1
        omega
      have hj := HJ.out
      obtain ⟨K, hK⟩ := markIntS_ev (l.getD i []) j (by omega) (by omega)
      have hst := rowMarks_step l m i hlt
      rw [← hj] at hst
      have hjj : j + (l.getD i []).length = m + bulk (l.take (i + 1)) := by
        have e : l.getD i [] = l[i] := by rw [List.getD_eq_getElem?_getD, List.getElem?_eq_getElem hlt]; rfl
        rw [List.take_succ_eq_append_getElem hlt, bulk_append, e, hj]
        simp only [bulk]
        omega
      have J1 := Aside0.mk hjj
      have ST := Aside0.mk hst
      have HK1 := Aside0.mk (hK K (Nat.le_refl _))
      have HR := Aside0.mk hR
      have HO := Aside0.mk hoki
      have HH := Aside0.mk hH
      clear hst hK hR hoki hH hjj hj hx hcl hcc hfr HJ
      generalize l.getD i [] = r at hx1 HR HK1 ST J1 HH hlb
      go_wp2_with (go_at_call 19; (with_reducible refine (laws_markIntS.calls K oki _ r (j : Int) _ _ w0 _ HB.out HR.out HK1.out).mono ?_); rintro e w6 ⟨rfl, hr6, hb6, hk6⟩; have R6 := Aside0.mk hr6; have B6 := Aside0.mk hb6; have K6 := Aside0.mk hk6; clear hr6 hb6 hk6)
      go_roundg (l.length - (i + 1))
      case measure => omega
      case rel =>
        refine ⟨i + 1, j + r.length, by omega, by omega, J1, rfl, by go_num, ⟨?_⟩, B6, ⟨HK.out.then_ K6.out (fun k hk => .inl (HO.out k hk).1)⟩⟩
        rw [← ST.out]
        have h1 := Kd.H_back (Kd.H_step HH.out (fun k _ hn hlt => K6.out.2 k hlt hn)) (x' := marks j r.length) (okp := oki) ⟨_, rfl, Kd.R_mono (Kd.R_tight rfl R6.out) (fun k hk => HR.out.1 k hk.symm)⟩ (fun _ h => h)
        rwa [Int.toNat_natCast] at h1
    · have : i = l.length := by omega
      subst this
      have hltz : ¬ (l.length : Int) < (l.length : Int) := by omega
      replace HS := Aside0.mk (show Kd.S _ _ _ _ _ _ (rowMarks m l) by have := HS.out; rwa [List.take_length, List.drop_length, List.append_nil] at this)
      go_wp2
      go_ret
      exact ⟨by have := HJ.out; rw [List.take_length] at this; rw [this]; rfl, HS.out, HB.out, HK.out⟩
end Go.Proofs.Ytljjjdgnpnnmoaa.Q

set_option linter.unusedVariables false
set_option linter.unusedSimpArgs false
namespace Go.Proofs.Ytljjjdgnpnnmoaa.Q
open Go.RowKit Go.Proofs.Ytljjjdgnpnnmoaa.F Go.Proofs.YtljjjdgnpnnmoaaW.PrintWords Go.Proofs.YtljjjdgnpnnmoaaW.PrintLast Go.Proofs.YtljjjdgnpnnmoaaW.PrintMore
section
variable {w W : World} {L L' : List Ob} {ok ok' : Nat → Prop} {v v' : Value} {xs ys : List Int}
theorem markIntS_st (h : St w W L) (i : Nat) (hi : L[i]? = some (obR (Kd.int .i64) 3 w ok v xs)) (m : Nat) (hm : m ≤ 2305843009213693952) (hl : xs.length ≤ 1152921504606846976) (hL : L.set i (obR (Kd.int .i64) 3 w ok v (marks m xs.length)) = L') :
    Calls Try.prog 19 #[v, .int .i64 (m : Int)] W fun e W' => e = .returned (.int .i64 ((m + xs.length : Nat) : Int)) ∧ St w W' L' := by
  obtain ⟨K, hK⟩ := markIntS_ev xs m hl hm
  have hR : Kd.R (Kd.int .i64) 3 W w.heap.size ok v xs := h.get i hi
  refine (laws_markIntS.calls K ok v xs (m : Int) _ _ w W h.below hR (hK K (Nat.le_refl _))).mono ?_
  rintro e W' ⟨rfl, hr, hb, hk⟩
  exact ⟨rfl, h.mark (o' := obR (Kd.int .i64) 3 w ok v (marks m xs.length)) i hi rfl firmR hb hk (Kd.R_mono (Kd.R_tight rfl hr) (fun k hk => hR.1 k hk.symm)) hL⟩
end
end Go.Proofs.Ytljjjdgnpnnmoaa.Q

set_option linter.unusedVariables false
set_option linter.unusedSimpArgs false
namespace Go.Proofs.Ytljjjdgnpnnmoaa.Q
open Go.RowKit Go.Proofs.Ytljjjdgnpnnmoaa.F Go.Proofs.YtljjjdgnpnnmoaaW.PrintWords Go.Proofs.YtljjjdgnpnnmoaaW.PrintLast Go.Proofs.YtljjjdgnpnnmoaaW.PrintMore
section
variable {w W : World} {L L' : List Ob} {ok ok' : Nat → Prop} {v v' : Value} {xs ys : List (List Int)}
theorem markIntSS_st (h : St w W L) (i : Nat) (hi : L[i]? = some (obS (Kd.slice 3 (Kd.int .i64)) 22 w ok v xs)) (m : Nat) (hm : m ≤ 1152921504606846976) (hl : xs.length ≤ 1152921504606846976) (hb : bulk xs ≤ 1152921504606846976)
    (hL : L.set i (obS (Kd.slice 3 (Kd.int .i64)) 22 w ok v (rowMarks m xs)) = L') :
    Calls Try.prog 42 #[v, .int .i64 (m : Int)] W fun e W' => e = .returned (.int .i64 ((m + bulk xs : Nat) : Int)) ∧ St w W' L' := by
  have hR : Kd.S (Kd.slice 3 (Kd.int .i64)) 22 W w.heap.size ok v xs := h.get i hi
  refine (markIntSS_calls ok v xs m w W h.below hR hb hm hl).mono ?_
  rintro e W' ⟨rfl, hr, hb, hk⟩
  exact ⟨rfl, h.mark (o' := obS (Kd.slice 3 (Kd.int .i64)) 22 w ok v (rowMarks m xs)) i hi rfl firmS hb hk hr hL⟩
theorem heldIntSS_ev (l : List (List Int)) (m : Nat) (hl : l.length ≤ 1152921504606846976) (hb : bulk l ≤ 1152921504606846976) (hm : m ≤ 1152921504606846976) : Ev (fun k => laws_heldIntSS.f k (rowMarks m l) (m : Int)) ((m + bulk l : Nat) : Int) := by
  unfold laws_heldIntSS.f
  have key : ∀ (a b : List (List Int)), a ++ b = l → Ev (fun k => laws_heldIntSS.l0 k (rowMarks m l) ((m + bulk a : Nat) : Int) (a.length : Int)) ((m + bulk l : Nat) : Int) := by
    intro a b hab
    induction b generalizing a with
    | nil =>
      rw [List.append_nil] at hab
      subst hab
      refine Ev.step (fun k => by rw [laws_heldIntSS.l0]) ?_
      exact ev_neg (by rw [rowMarks_length]; omega) (ev_val rfl)
    | cons r b ih =>
      have hlen : a.length < l.length := by rw [← hab]; simp
      have hbl : bulk a + r.length ≤ bulk l := by rw [← hab, bulk_append]; simp only [bulk]; omega
      have hrow : rd_L1 (rowMarks m l) (a.length : Int) = marks (m + bulk a) r.length := by
        rw [rows_nat, ← hab, rowMarks_append, List.getD_eq_getElem?_getD, List.getElem?_append_right (by rw [rowMarks_length]; exact Nat.le_refl _), rowMarks_length, Nat.sub_self]
        rfl
      have := ih (a ++ [r]) (by rw [← hab]; simp)
      rw [bulk_append, List.length_append] at this
      simp only [bulk, List.length_cons, List.length_nil, Nat.add_zero, Nat.zero_add] at this
      refine Ev.step (fun k => by rw [laws_heldIntSS.l0]) ?_
      refine ev_pos (by rw [rowMarks_length]; omega) (ev_pos (by omega) ?_)
      rw [hrow]
      refine Ev.bind (heldIntS_ev (m + bulk a) r.length (by omega) (by omega)) (ev_neg (by omega) ?_)
      rw [wrap_succ (by omega), Nat.add_assoc]
      exact this
  have := key [] l rfl
  simpa [bulk] using this
end
end Go.Proofs.Ytljjjdgnpnnmoaa.Q

set_option linter.unusedVariables false
set_option linter.unusedSimpArgs false
namespace Go.Proofs.Ytljjjdgnpnnmoaa.Q
open Go.RowKit Go.Proofs.Ytljjjdgnpnnmoaa.F Go.Proofs.YtljjjdgnpnnmoaaW.PrintWords Go.Proofs.YtljjjdgnpnnmoaaW.PrintLast Go.Proofs.YtljjjdgnpnnmoaaW.PrintMore
section
variable {w W : World} {L L' : List Ob} {o : Ob} {ok ok' : Nat → Prop} {v0 v1 u0 u1 : Value} {n : List Int} {m : List (List Int)}
theorem St.drop (h : St w W (o :: L)) : St w W L := ⟨h.below, fun p hp => h.own p (List.mem_cons_of_mem _ hp), (List.pairwise_cons.1 h.apart).2⟩
def obB (b : Nat) (cs : Array Value) (t : Nat) : Ob := ⟨fun k => k = b, fun W => W.heap[b]? = some (.cells cs t (0, 0))⟩
theorem firmB {b : Nat} {cs : Array Value} {t : Nat} : Firm (obB b cs t) := fun _ _ h hm => (hm b rfl (blk_lt h)).trans h
theorem St.cellB (h : St w W L) {b t : Nat} {cs : Array Value} (i : Nat) (hi : L[i]? = some (obB b cs t)) (j : Nat) {v : Value} (hv : cs[j]? = some v) : W.cell? ⟨b, j, none⟩ = some v := (blk_cell (show W.heap[b]? = some (.cells cs t (0, 0)) from h.get i hi) j).trans hv
theorem St.box (h : St w W L) (cs : Array Value) (t : Nat) : St w (W.alloc (.cells cs t (0, 0))) (obB W.heap.size cs t :: L) := by
  have e1 : (W.alloc (.cells cs t (0, 0))).heap.size = W.heap.size + 1 := by show (W.heap.push _).size = _; exact Array.size_push ..
  refine h.add (o := obB W.heap.size cs t) (below_alloc (Below.refl _ _) _) (fun k hk => ?_) ?_ firmB
  · have h1 : k = W.heap.size := hk
    omega
  · show (W.heap.push _)[W.heap.size]? = _
    exact Array.getElem?_push_size
theorem eqTableau_st_same (h : St w W L) (h0 : Reads (Kd.int .i64) W v0 n) (h1 : Reads (Kd.slice 3 (Kd.int .i64)) W v1 m) (h2 : Reads (Kd.int .i64) W u0 n) (h3 : Reads (Kd.slice 3 (Kd.int .i64)) W u1 m)
    (hn : n.length ≤ 1152921504606846976) (hm : m.length ≤ 1152921504606846976) (hb : ∀ r ∈ m, r.length ≤ 1152921504606846976) :
    Calls Try.prog 14 #[.agg #[v0, v1], .agg #[u0, u1]] W fun e W' => e = .returned (.bool true) ∧ St w W' L := by
  obtain ⟨A0, c0, rfl, hc0, hC0⟩ := h0
  obtain ⟨A1, c1, rfl, hc1, hC1⟩ := h1
  obtain ⟨A2, c2, rfl, hc2, hC2⟩ := h2
  obtain ⟨A3, c3, rfl, hc3, hC3⟩ := h3
  have hE : Ev (fun k => laws_eqTableau.f k n m n m) true := by
    unfold laws_eqTableau.f
    exact Ev.bind (eqIntS_ev n n hn) (ev_pos (by simp) (Ev.bind (eqIntSS_ev m m hm hb) (ev_pos (by simp) (ev_val rfl))))
  obtain ⟨K, hK⟩ := hE
  refine (laws_eqTableau.calls K A0 c0 n A1 c1 m A2 c2 n A3 c3 m true W hC0 hc0 hC1 hc1 hC2 hc2 hC3 hc3 (hK K (Nat.le_refl _))).mono ?_
  rintro e W' ⟨rfl, hd⟩
  exact ⟨rfl, h.quiet hd⟩
theorem heldTableau_st (h : St w W L) (a : Nat) (m : List (List Int)) (q : Nat) (h0 : Reads (Kd.int .i64) W v0 (marks q a)) (h1 : Reads (Kd.slice 3 (Kd.int .i64)) W v1 (rowMarks (q + a) m))
    (hq : q ≤ 576460752303423488) (hn : a ≤ 576460752303423488) (hm : m.length ≤ 576460752303423488) (hb : bulk m ≤ 576460752303423488) :
    Calls Try.prog 23 #[.agg #[v0, v1], .int .i64 (q : Int)] W fun e W' => e = .returned (.int .i64 ((q + a + bulk m : Nat) : Int)) ∧ St w W' L := by
  obtain ⟨A0, c0, rfl, hc0, hC0⟩ := h0
  obtain ⟨A1, c1, rfl, hc1, hC1⟩ := h1
  have hE : Ev (fun k => laws_heldTableau.f k (marks q a) (rowMarks (q + a) m) (q : Int)) ((q + a + bulk m : Nat) : Int) := by
    unfold laws_heldTableau.f
    exact Ev.bind (heldIntS_ev q a (by omega) (by omega)) (ev_neg (by omega) (Ev.bind (heldIntSS_ev m (q + a) (by omega) (by omega) (by omega)) (ev_neg (by omega) (ev_val rfl))))
  obtain ⟨K, hK⟩ := hE
  refine (laws_heldTableau.calls K A0 c0 _ A1 c1 _ (q : Int) _ W hC0 hc0 hC1 hc1 (hK K (Nat.le_refl _))).mono ?_
  rintro e W' ⟨rfl, hd⟩
  exact ⟨rfl, h.quiet hd⟩
set_option maxHeartbeats 4000000 in
set_option maxRecDepth 100000 in
theorem markTableau_st (h : St w W L) (i j : Nat) (hi : L[i]? = some (obR (Kd.int .i64) 3 w ok v0 n)) (hij : i ≠ j) (hj : L[j]? = some (obS (Kd.slice 3 (Kd.int .i64)) 22 w ok' v1 m)) (q : Nat)
    (hq : q ≤ 576460752303423488) (hn : n.length ≤ 576460752303423488) (hm : m.length ≤ 576460752303423488) (hb : bulk m ≤ 576460752303423488)
    (hL : (L.set i (obR (Kd.int .i64) 3 w ok v0 (marks q n.length))).set j (obS (Kd.slice 3 (Kd.int .i64)) 22 w ok' v1 (rowMarks (q + n.length) m)) = L') :
    Calls Try.prog 18 #[.agg #[v0, v1], .int .i64 (q : Int)] W fun e W' => e = .returned (.int .i64 ((q + n.length + bulk m : Nat) : Int)) ∧ St w W' L' := by
  obtain ⟨A0, c0, rfl, _, _⟩ := h.readR i hi
  obtain ⟨A1, c1, rfl, _, _⟩ := h.readS j hj
  have H0 := Aside0.mk h
  have HI := Aside0.mk hi
  have HJ := Aside0.mk hj
  have HF := Aside0.mk (And.intro hq (And.intro hn (And.intro hm hb)))
  clear h hi hj hq hn hm hb
  go_enter Try.func18, Try.ntmps18
  go_wp2_with (first
    | ((with_reducible refine gate_dst (N := 2) rfl ?_); refine box_event ?hg (N := 2) ?hd (cs := #[.slice A0 n.length c0, .slice A1 m.length c1]) (t := 28) ?hr ?_; (case hd => rfl); (case hg => rfl); (case hr => first | (go_simp; done) | (go_simp; rfl)); intro b hb w1 hx hl; have H1 := Aside0.mk (H0.out.add (o := obB b #[.slice A0 n.length c0, .slice A1 m.length c1] 28) hl (fun k hk => by have h1 : k = b := hk; have h2 := blk_lt hx; omega) hx firmB); have hc0 : w1.cell? ⟨b, 0, none⟩ = some (.slice A0 n.length c0) := (blk_cell hx 0).trans rfl; clear hx hl hb)
    | (go_at_call 19; refine (markIntS_st (L' := obB b #[.slice A0 n.length c0, .slice A1 m.length c1] 28 :: L.set i (obR (Kd.int .i64) 3 w ok (.slice A0 n.length c0) (marks q n.length))) H1.out (i + 1) HI.out q (by have := HF.out; omega) (by have := HF.out; omega) rfl).mono ?_; rintro e w2 ⟨rfl, h_⟩; have H2 := Aside0.mk h_; have hc1 : w2.cell? ⟨b, 1, none⟩ = some (.slice A1 m.length c1) := (blk_cell (show w2.heap[b]? = some (.cells #[.slice A0 n.length c0, .slice A1 m.length c1] 28 (0, 0)) from h_.get 0 rfl) 1).trans rfl; clear h_ H1 hc0)
    | (go_at_call 42; refine (markIntSS_st (L' := obB b #[.slice A0 n.length c0, .slice A1 m.length c1] 28 :: (L.set i (obR (Kd.int .i64) 3 w ok (.slice A0 n.length c0) (marks q n.length))).set j (obS (Kd.slice 3 (Kd.int .i64)) 22 w ok' (.slice A1 m.length c1) (rowMarks (q + n.length) m))) H2.out (j + 1) ((List.getElem?_set_ne hij).trans HJ.out) (q + n.length) (by have := HF.out; omega) (by have := HF.out; omega) (by have := HF.out; omega) rfl).mono ?_; rintro e w3 ⟨rfl, h_⟩; have H3 := Aside0.mk h_; clear h_ H2 hc1))
  go_ret
  exact ⟨rfl, hL ▸ H3.out.drop⟩
end
end Go.Proofs.Ytljjjdgnpnnmoaa.Q

set_option linter.unusedVariables false
set_option linter.unusedSimpArgs false
namespace Go.Proofs.Ytljjjdgnpnnmoaa.Q
open Go.RowKit Go.Proofs.Ytljjjdgnpnnmoaa.F Go.Proofs.YtljjjdgnpnnmoaaW.PrintWords Go.Proofs.YtljjjdgnpnnmoaaW.PrintLast Go.Proofs.YtljjjdgnpnnmoaaW.PrintMore
section
variable {w W w1 : World} {L L' : List Ob} {b t : Nat} {cs cs' : Array Value} {x0 x1 : Value} {o o' o'' : Ob}
theorem St.putB (h : St w W L) (i : Nat) (hi : L[i]? = some (obB b cs t)) (j : Nat) (u : Value) (hc : cs.setIfInBounds j u = cs') : St w (W.setCell ⟨b, j, none⟩ u) (L.set i (obB b cs' t)) := by
  have hb : w.heap.size ≤ b := ((h.own _ (List.mem_of_getElem? hi)).1 b rfl).1
  refine h.mark (o' := obB b cs' t) i hi rfl firmB (below_set h.below hb) ⟨by simp [World.setCell], fun k _ hk => ?_⟩ (blk_put (show W.heap[b]? = some (.cells cs t (0, 0)) from h.get i hi) j u hc) rfl
  have hk' : k ≠ b := hk
  exact Below.heap_setCell _ _ _ _ hk'
theorem St.addB (h : St w W L) {W' : World} (hx : W'.heap[b]? = some (.cells cs t (0, 0))) (hb : b = W.heap.size) (hl : Below W.heap.size W W') : St w W' (obB b cs t :: L) :=
  h.add (o := obB b cs t) hl (fun k hk => by have h1 : k = b := hk; have h2 := blk_lt hx; omega) hx firmB
theorem St.heapB (h : St w W L) (i : Nat) (hi : L[i]? = some (obB b cs t)) : W.heap[b]? = some (.cells cs t (0, 0)) := h.get i hi
theorem Reads.C {α : Type} {d : Kd α} {A : Option Addr} {c : Nat} {xs : List α} (h : Reads d W (.slice A xs.length c) xs) : xs.length ≤ c ∧ d.C W A xs.length xs := by
  obtain ⟨A', c', e, h1, h2⟩ := h
  cases e
  exact ⟨h1, h2⟩
theorem rows2_C {A1 A2 : Option Addr} {k1 k2 e : Nat} {y1 y2 : List Int} (h1 : Reads (Kd.int .i64) W (.slice A1 y1.length k1) y1) (h2 : Reads (Kd.int .i64) W (.slice A2 y2.length k2) y2) (hb : W.heap[b]? = some (.cells #[.slice A1 y1.length k1, .slice A2 y2.length k2] t (0, 0))) :
    Reads (Kd.slice e (Kd.int .i64)) W (.slice (some ⟨b, 0, none⟩) 2 2) [y1, y2] := by
  refine ⟨_, _, rfl, Nat.le_refl _, rfl, (show 2 ≤ 9223372036854775807 by decide), fun _ => ⟨_, rfl, fun j p hj => ?_⟩⟩
  match j, hj with
  | 0, hj =>
    obtain rfl : y1 = p := by simpa using hj
    refine ⟨[.slice A1 y1.length k1], rfl, ⟨A1, k1, rfl, (Reads.C h1).1, (Reads.C h1).2⟩, fun i u hu => ?_⟩
    match i, hu with
    | 0, hu =>
      obtain rfl : Value.slice A1 y1.length k1 = u := by simpa using hu
      exact (blk_cell hb 0).trans rfl
  | 1, hj =>
    obtain rfl : y2 = p := by simpa using hj
    refine ⟨[.slice A2 y2.length k2], rfl, ⟨A2, k2, rfl, (Reads.C h2).1, (Reads.C h2).2⟩, fun i u hu => ?_⟩
    match i, hu with
    | 0, hu =>
      obtain rfl : Value.slice A2 y2.length k2 = u := by simpa using hu
      exact (blk_cell hb 1).trans rfl
end
end Go.Proofs.Ytljjjdgnpnnmoaa.Q

set_option linter.unusedVariables false
set_option linter.unusedSimpArgs false
namespace Go.Proofs.Ytljjjdgnpnnmoaa.Q
open Go.RowKit Go.Proofs.Ytljjjdgnpnnmoaa.F Go.Proofs.YtljjjdgnpnnmoaaW.PrintWords Go.Proofs.YtljjjdgnpnnmoaaW.PrintLast Go.Proofs.YtljjjdgnpnnmoaaW.PrintMore
theorem flatten_bulk : ∀ (m : List (List Int)), m.flatten.length = bulk m
  | [] => rfl
  | r :: m => by rw [List.flatten_cons, List.length_append, flatten_bulk m]; rfl
end Go.Proofs.Ytljjjdgnpnnmoaa.Q

set_option linter.unusedVariables false
set_option linter.unusedSimpArgs false
namespace Go.Proofs.Ytljjjdgnpnnmoaa.Q
open Go.RowKit Go.Proofs.Ytljjjdgnpnnmoaa.F Go.Proofs.YtljjjdgnpnnmoaaW.PrintWords Go.Proofs.YtljjjdgnpnnmoaaW.PrintLast Go.Proofs.YtljjjdgnpnnmoaaW.PrintMore
theorem spec_l1In_eq (a b c : Int) : spec_l1In.f a b c = some (decide (b ≤ a ∧ a ≤ c)) := by
  unfold spec_l1In.f
  by_cases h : b ≤ a
  · rw [if_pos h]; simp [h]
  · rw [if_neg h]; simp [h]
end Go.Proofs.Ytljjjdgnpnnmoaa.Q

set_option linter.unusedVariables false
set_option linter.unusedSimpArgs false
namespace Go.Proofs.Ytljjjdgnpnnmoaa.Q
open Go.RowKit Go.Proofs.Ytljjjdgnpnnmoaa.F Go.Proofs.YtljjjdgnpnnmoaaW.PrintWords Go.Proofs.YtljjjdgnpnnmoaaW.PrintLast Go.Proofs.YtljjjdgnpnnmoaaW.PrintMore
def at0 (l : List Int) (i : Int) : Int := if 0 ≤ i ∧ i < (l.length : Int) then rd l i else 0
theorem at0_nat (l : List Int) (i : Nat) (h : i < l.length) : at0 l (i : Int) = rd l (i : Int) := by unfold at0; rw [if_pos (by omega)]
theorem at0_out (l : List Int) (i : Int) (h : i < 0 ∨ (l.length : Int) ≤ i) : at0 l i = 0 := by unfold at0; rw [if_neg (by omega)]
theorem impl_within_eq (a b c : Int) : impl_within.f a b c = some (decide (b ≤ a ∧ a ≤ c)) := rfl
theorem impl_at_eq (l : List Int) (i : Int) (hl : l.length ≤ 1048576) : impl_at.f l i = some (at0 l i) := by
  unfold impl_at.f at0
  rw [wrap_id (by omega) (by omega), impl_within_eq]
  simp only [Option.bind_some]
  by_cases h : 0 ≤ i ∧ i < (l.length : Int)
  · rw [if_pos h, if_pos (by rw [decide_eq_true_eq]; omega), if_pos h.1, if_pos h.2]
  · rw [if_neg h, if_neg (by rw [decide_eq_true_eq]; omega)]
theorem spec_l2At_eq (l : List Int) (i : Int) : spec_l2At.f l i = some (at0 l i) := by
  unfold spec_l2At.f at0
  by_cases h1 : i < 0
  · rw [if_pos h1, if_neg (by omega)]
  · rw [if_neg h1]
    by_cases h2 : i ≥ (l.length : Int)
    · rw [if_pos h2, if_neg (by omega)]
    · rw [if_neg h2, if_pos (by omega), if_pos (by omega), if_pos (by omega)]
def partOk (prev s : Int) : List Int → Bool
  | [] => true
  | x :: l => decide (1 ≤ x ∧ x ≤ 9) && decide (x ≤ prev) && decide (s + x ≤ 9) && partOk x (s + x) l
def isPartition (l : List Int) : Bool := partOk 9 0 l
theorem partOk_sum {l : List Int} : ∀ {prev s : Int}, s ≤ 9 → partOk prev s l = true → s + isum l ≤ 9 ∧ s + l.length ≤ 9 ∧ ∀ x ∈ l, 1 ≤ x ∧ x ≤ 9 := by
  induction l with
  | nil => intro prev s h _; simp [isum, h]
  | cons x l ih =>
    intro prev s h hp
    simp only [partOk, Bool.and_eq_true, decide_eq_true_eq] at hp
    obtain ⟨⟨⟨h1, h2⟩, h3⟩, h4⟩ := hp
    obtain ⟨g1, g2, g3⟩ := ih h3 h4
    simp only [isum, List.length_cons]
    refine ⟨by omega, by omega, fun y hy => ?_⟩
    rcases List.mem_cons.1 hy with rfl | hy
    · exact h1
    · exact g3 y hy
theorem isPartition_bd {l : List Int} (h : isPartition l = true) : isum l ≤ 9 ∧ l.length ≤ 9 ∧ ∀ x ∈ l, 1 ≤ x ∧ x ≤ 9 := by
  obtain ⟨h1, h2, h3⟩ := partOk_sum (by omega) h
  exact ⟨by omega, by omega, h3⟩
theorem bool_not_t {X : Bool} (h : true = !X) : X = false := by cases X <;> simp_all
theorem bool_not_f {X : Bool} (h : false = !X) : X = true := by cases X <;> simp_all
def before (l : List Int) (i : Nat) : Int := match i with | 0 => 9 | i + 1 => rd l (i : Int)
theorem spec_IsPartition_ev (l : List Int) (hl : l.length ≤ 1048576) : Ev (fun k => spec_IsPartition.f k l) (isPartition l) := by
  have key : ∀ i, i ≤ l.length → ∀ s : Int, 0 ≤ s → s ≤ 9 → Ev (fun k => spec_IsPartition.l0 k l s (i : Int)) (partOk (before l i) s (l.drop i)) := by
    refine downTo l.length ?_ ?_
    · intro s a b
      refine Ev.step (fun k => by rw [spec_IsPartition.l0]) ?_
      exact ev_neg (by omega) (ev_val (by rw [List.drop_length]; rfl))
    · intro i hi ih s a b
      have hstep : ∀ c : Bool, (c = !(decide (1 ≤ rd l (i : Int) ∧ rd l (i : Int) ≤ 9) && decide (rd l (i : Int) ≤ before l i))) → Ev (fun k => spec_IsPartition.j1 k l s (i : Int) c) (partOk (before l i) s (l.drop i)) := by
        intro c hc
        refine Ev.step (fun k => by rw [spec_IsPartition.j1]) ?_
        rw [drop_rd l i hi]
        simp only [partOk]
        cases c with
        | true =>
          refine ev_pos rfl (ev_val ?_)
          have : (decide (1 ≤ rd l (i : Int) ∧ rd l (i : Int) ≤ 9) && decide (rd l (i : Int) ≤ before l i)) = false := bool_not_t hc
          rw [this]; rfl
        | false =>
          have hg : (decide (1 ≤ rd l (i : Int) ∧ rd l (i : Int) ≤ 9) && decide (rd l (i : Int) ≤ before l i)) = true := bool_not_f hc
          have h1 : 1 ≤ rd l (i : Int) ∧ rd l (i : Int) ≤ 9 := by simp only [Bool.and_eq_true, decide_eq_true_eq] at hg; exact hg.1
          rw [hg, Bool.true_and, wrap_id (i := s + rd l (i : Int)) (by omega) (by omega)]
          refine ev_neg (by simp) (ev_pos (by omega) (ev_pos (by omega) (ev_ite (fun h => ev_val ?_) (fun h => ?_))))
          · rw [decide_eq_false (by omega)]; rfl
          · rw [wrap_succ (by omega), decide_eq_true (by omega), Bool.true_and]
            exact ih _ (by omega) (by omega)
      refine Ev.step (fun k => by rw [spec_IsPartition.l0]) ?_
      refine ev_pos (by omega) (ev_pos (by omega) (ev_bindc (spec_l1In_eq _ _ _) (ev_ite (fun h => ?_) (fun h => ?_))))
      · cases i with
        | zero =>
          refine ev_neg (by omega) (hstep false ?_)
          rw [decide_eq_true_eq] at h
          have h' : rd l ((0 : Nat) : Int) ≤ before l 0 := by show _ ≤ (9 : Int); omega
          rw [decide_eq_true h, decide_eq_true h']; rfl
        | succ i =>
          have e : wrap64 (((i + 1 : Nat) : Int) - 1) = (i : Int) := by unfold wrap64; omega
          rw [e]
          refine ev_pos (by omega) (ev_pos (by omega) (ev_pos (by omega) (hstep _ ?_)))
          rw [h, Bool.true_and]
          show decide (rd l ((i + 1 : Nat) : Int) > rd l (i : Int)) = !decide (rd l ((i + 1 : Nat) : Int) ≤ rd l (i : Int))
          by_cases g : rd l ((i + 1 : Nat) : Int) ≤ rd l (i : Int)
          · rw [decide_eq_true g, decide_eq_false (by omega)]; rfl
          · rw [decide_eq_false g, decide_eq_true (by omega)]; rfl
      · refine hstep true ?_
        simp only [Bool.not_eq_true] at h
        rw [h]; rfl
  unfold spec_IsPartition.f isPartition
  have := key 0 (by omega) 0 (by omega) (by omega)
  rw [List.drop_zero] at this
  exact this
theorem impl_IsPartition_ev (l : List Int) (hl : l.length ≤ 1048576) : Ev (fun k => impl_IsPartition.f k l) (isPartition l) := by
  have key : ∀ i, i ≤ l.length → ∀ s : Int, 0 ≤ s → s ≤ 9 → Ev (fun k => impl_IsPartition.l0 k l s l (l.length : Int) (i : Int)) (partOk (before l i) s (l.drop i)) := by
    refine downTo l.length ?_ ?_
    · intro s a b
      refine Ev.step (fun k => by rw [impl_IsPartition.l0]) ?_
      exact ev_neg (by omega) (ev_val (by rw [List.drop_length]; rfl))
    · intro i hi ih s a b
      have hstep : ∀ c : Bool, (c = !(decide (1 ≤ rd l (i : Int) ∧ rd l (i : Int) ≤ 9) && decide (rd l (i : Int) ≤ before l i))) → Ev (fun k => impl_IsPartition.j1 k l s (rd l (i : Int)) l (l.length : Int) (i : Int) c) (partOk (before l i) s (l.drop i)) := by
        intro c hc
        refine Ev.step (fun k => by rw [impl_IsPartition.j1]) ?_
        rw [drop_rd l i hi]
        simp only [partOk]
        cases c with
        | true =>
          refine ev_pos rfl (ev_val ?_)
          have : (decide (1 ≤ rd l (i : Int) ∧ rd l (i : Int) ≤ 9) && decide (rd l (i : Int) ≤ before l i)) = false := bool_not_t hc
          rw [this]; rfl
        | false =>
          have hg : (decide (1 ≤ rd l (i : Int) ∧ rd l (i : Int) ≤ 9) && decide (rd l (i : Int) ≤ before l i)) = true := bool_not_f hc
          have h1 : 1 ≤ rd l (i : Int) ∧ rd l (i : Int) ≤ 9 := by simp only [Bool.and_eq_true, decide_eq_true_eq] at hg; exact hg.1
          rw [hg, Bool.true_and, wrap_id (i := s + rd l (i : Int)) (by omega) (by omega)]
          refine ev_neg (by simp) (ev_ite (fun h => ev_val ?_) (fun h => ?_))
          · rw [decide_eq_false (by omega)]; rfl
          · rw [wrap_succ (by omega), decide_eq_true (by omega), Bool.true_and]
            exact ih _ (by omega) (by omega)
      refine Ev.step (fun k => by rw [impl_IsPartition.l0]) ?_
      refine ev_pos (by omega) (ev_pos (by omega) (ev_pos (by omega) (ev_bindc (impl_within_eq _ _ _) (ev_ite (fun h => ?_) (fun h => ?_)))))
      · cases i with
        | zero =>
          refine ev_neg (by omega) (hstep false ?_)
          rw [decide_eq_true_eq] at h
          have h' : rd l ((0 : Nat) : Int) ≤ before l 0 := by show _ ≤ (9 : Int); omega
          rw [decide_eq_true h, decide_eq_true h']; rfl
        | succ i =>
          have e : wrap64 (((i + 1 : Nat) : Int) - 1) = (i : Int) := by unfold wrap64; omega
          rw [e]
          refine ev_pos (by omega) (ev_pos (by omega) (ev_pos (by omega) (hstep _ ?_)))
          rw [h, Bool.true_and]
          show decide (rd l ((i + 1 : Nat) : Int) > rd l (i : Int)) = !decide (rd l ((i + 1 : Nat) : Int) ≤ rd l (i : Int))
          by_cases g : rd l ((i + 1 : Nat) : Int) ≤ rd l (i : Int)
          · rw [decide_eq_true g, decide_eq_false (by omega)]; rfl
          · rw [decide_eq_false g, decide_eq_true (by omega)]; rfl
      · refine hstep true ?_
        simp only [Bool.not_eq_true] at h
        rw [h]; rfl
  unfold impl_IsPartition.f isPartition
  have := key 0 (by omega) 0 (by omega) (by omega)
  rw [List.drop_zero] at this
  exact this
end Go.Proofs.Ytljjjdgnpnnmoaa.Q

set_option linter.unusedVariables false
set_option linter.unusedSimpArgs false
namespace Go.Proofs.Ytljjjdgnpnnmoaa.Q
open Go.RowKit Go.Proofs.Ytljjjdgnpnnmoaa.F Go.Proofs.YtljjjdgnpnnmoaaW.PrintWords Go.Proofs.YtljjjdgnpnnmoaaW.PrintLast Go.Proofs.YtljjjdgnpnnmoaaW.PrintMore
def isInside (q p : List Int) : Bool := isPartition q && isPartition p && (List.range q.length).all (fun i => decide (rd q (i : Int) ≤ at0 p (i : Int)))
theorem inside_all (q p : List Int) (i : Nat) : ((List.range q.length).all (fun i => decide (rd q (i : Int) ≤ at0 p (i : Int))) = true) ↔ ∀ j, j < q.length → rd q (j : Int) ≤ at0 p (j : Int) := by
  rw [List.all_eq_true]
  constructor
  · intro h j hj; have := h j (List.mem_range.2 hj); simpa using this
  · intro h j hj; simpa using h j (List.mem_range.1 hj)
theorem isInside_len {q p : List Int} (h : isInside q p = true) : isPartition q = true ∧ isPartition p = true ∧ q.length ≤ p.length ∧ ∀ j, j < q.length → rd q (j : Int) ≤ rd p (j : Int) := by
  unfold isInside at h
  simp only [Bool.and_eq_true] at h
  obtain ⟨⟨h1, h2⟩, h3⟩ := h
  rw [inside_all q p 0] at h3
  have hb := (isPartition_bd h1).2.2
  have hlen : q.length ≤ p.length := by
    apply Classical.byContradiction
    intro hn
    have := h3 p.length (by omega)
    rw [at0_out _ _ (.inr (by omega))] at this
    have := (hb _ (rd_mem q p.length (by omega))).1
    omega
  refine ⟨h1, h2, hlen, fun j hj => ?_⟩
  have := h3 j hj
  rwa [at0_nat p j (by omega)] at this
theorem impl_IsInside_ev (q p : List Int) (hq : q.length ≤ 1048576) (hp : p.length ≤ 1048576) : Ev (fun k => impl_IsInside.f k q p) (isInside q p) := by
  unfold impl_IsInside.f isInside
  refine Ev.bind (impl_IsPartition_ev q hq) (ev_ite (fun h1 => ?_) (fun h1 => ?_))
  · refine Ev.bind (impl_IsPartition_ev p hp) (Ev.step (fun k => by rw [impl_IsInside.j0]) ?_)
    rw [h1, Bool.true_and]
    by_cases h2 : isPartition p = true
    · rw [h2, Bool.true_and]
      refine ev_neg (by simp) ?_
      have key : ∀ i, i ≤ q.length → ∃ b, Ev (fun k => impl_IsInside.l0 k p q (q.length : Int) (i : Int)) b ∧ (b = true ↔ ∀ j, i ≤ j → j < q.length → rd q (j : Int) ≤ at0 p (j : Int)) := by
        refine downTo q.length ?_ ?_
        · refine ⟨true, ?_, by simp; intro j a b; omega⟩
          refine Ev.step (fun k => by rw [impl_IsInside.l0]) ?_
          exact ev_neg (by omega) (ev_val rfl)
        · rintro i hi ⟨b, hb, hiff⟩
          by_cases hc : rd q (i : Int) > at0 p (i : Int)
          · refine ⟨false, ?_, ?_⟩
            · refine Ev.step (fun k => by rw [impl_IsInside.l0]) ?_
              exact ev_pos (by omega) (ev_pos (by omega) (ev_pos (by omega) (ev_bindc (impl_at_eq p _ hp) (ev_pos hc (ev_val rfl)))))
            · constructor
              · intro h; cases h
              · intro h; have := h i (Nat.le_refl _) hi; omega
          · refine ⟨b, ?_, ?_⟩
            · refine Ev.step (fun k => by rw [impl_IsInside.l0]) ?_
              refine ev_pos (by omega) (ev_pos (by omega) (ev_pos (by omega) (ev_bindc (impl_at_eq p _ hp) (ev_neg hc ?_))))
              rw [wrap_succ (by omega)]; exact hb
            · rw [hiff]
              constructor
              · intro h j a c
                by_cases e : j = i
                · subst e; omega
                · exact h j (by omega) c
              · intro h j a c; exact h j (by omega) c
      obtain ⟨b, hb, hiff⟩ := key 0 (by omega)
      refine ev_eq hb ?_
      rw [Bool.eq_iff_iff, hiff, inside_all q p 0]
      exact ⟨fun h j hj => h j (by omega) hj, fun h j _ hj => h j hj⟩
    · simp only [Bool.not_eq_true] at h2
      rw [h2]
      exact ev_pos rfl (ev_val rfl)
  · simp only [Bool.not_eq_true] at h1
    rw [h1]
    refine Ev.step (fun k => by rw [impl_IsInside.j0]) ?_; exact ev_pos rfl (ev_val rfl)
theorem spec_IsInside_ev (q p : List Int) (hq : q.length ≤ 1048576) (hp : p.length ≤ 1048576) : Ev (fun k => spec_IsInside.f k q p) (isInside q p) := by
  unfold spec_IsInside.f isInside
  refine Ev.bind (spec_IsPartition_ev q hq) (ev_ite (fun h1 => ?_) (fun h1 => ?_))
  · refine Ev.bind (spec_IsPartition_ev p hp) (ev_ite (fun h2 => ?_) (fun h2 => ?_))
    · rw [h1, h2, Bool.true_and, Bool.true_and]
      refine Ev.step (fun k => by rw [spec_IsInside.j0]) ?_
      have hb := (isPartition_bd h1).2.2
      by_cases hl : (q.length : Int) > (p.length : Int)
      · refine ev_pos (decide_eq_true hl) (ev_val ?_)
        symm
        rw [Bool.eq_false_iff]
        intro h
        rw [inside_all q p 0] at h
        have := h p.length (by omega)
        rw [at0_out _ _ (.inr (by omega))] at this
        have := (hb _ (rd_mem q p.length (by omega))).1
        omega
      · refine ev_neg (by simpa using hl) ?_
        have key : ∀ i, i ≤ q.length → ∃ b, Ev (fun k => spec_IsInside.l0 k q p (i : Int)) b ∧ (b = true ↔ ∀ j, i ≤ j → j < q.length → rd q (j : Int) ≤ at0 p (j : Int)) := by
          refine downTo q.length ?_ ?_
          · refine ⟨true, ?_, by simp; intro j a b; omega⟩
            refine Ev.step (fun k => by rw [spec_IsInside.l0]) ?_
            exact ev_neg (by omega) (ev_val rfl)
          · rintro i hi ⟨b, hb, hiff⟩
            have ea := at0_nat p i (by omega)
            by_cases hc : rd q (i : Int) > rd p (i : Int)
            · refine ⟨false, ?_, ?_⟩
              · refine Ev.step (fun k => by rw [spec_IsInside.l0]) ?_
                exact ev_pos (by omega) (ev_pos (by omega) (ev_pos (by omega) (ev_pos hc (ev_val rfl))))
              · constructor
                · intro h; cases h
                · intro h; have := h i (Nat.le_refl _) hi; omega
            · refine ⟨b, ?_, ?_⟩
              · refine Ev.step (fun k => by rw [spec_IsInside.l0]) ?_
                refine ev_pos (by omega) (ev_pos (by omega) (ev_pos (by omega) (ev_neg hc ?_)))
                rw [wrap_succ (by omega)]; exact hb
              · rw [hiff]
                constructor
                · intro h j a c
                  by_cases e : j = i
                  · subst e; omega
                  · exact h j (by omega) c
                · intro h j a c; exact h j (by omega) c
        obtain ⟨b, hb, hiff⟩ := key 0 (by omega)
        refine ev_eq hb ?_
        rw [Bool.eq_iff_iff, hiff, inside_all q p 0]
        exact ⟨fun h j hj => h j (by omega) hj, fun h j _ hj => h j hj⟩
    · simp only [Bool.not_eq_true] at h2
      rw [h1, h2]
      refine Ev.step (fun k => by rw [spec_IsInside.j0]) ?_; exact ev_pos rfl (ev_val rfl)
  · simp only [Bool.not_eq_true] at h1
    rw [h1]
    refine Ev.step (fun k => by rw [spec_IsInside.j0]) ?_; exact ev_pos rfl (ev_val rfl)
theorem impl_IsShape_ev (o n : List Int) (ho : o.length ≤ 1048576) (hn : n.length ≤ 1048576) : Ev (fun k => impl_IsShape.f k o n) (isInside n o) := by
  unfold impl_IsShape.f
  exact Ev.bind (impl_IsInside_ev n o hn ho) (ev_val rfl)
theorem spec_IsShape_ev (o n : List Int) (ho : o.length ≤ 1048576) (hn : n.length ≤ 1048576) : Ev (fun k => spec_IsShape.f k o n) (isInside n o) := by
  unfold spec_IsShape.f
  exact Ev.bind (spec_IsInside_ev n o hn ho) (ev_val rfl)
end Go.Proofs.Ytljjjdgnpnnmoaa.Q

set_option linter.unusedVariables false
set_option linter.unusedSimpArgs false
namespace Go.Proofs.Ytljjjdgnpnnmoaa.Q
open Go.RowKit Go.Proofs.Ytljjjdgnpnnmoaa.F Go.Proofs.YtljjjdgnpnnmoaaW.PrintWords Go.Proofs.YtljjjdgnpnnmoaaW.PrintLast Go.Proofs.YtljjjdgnpnnmoaaW.PrintMore
def reachOf (n : List Int) (m : List (List Int)) (i : Nat) : Int := at0 n (i : Int) + ((rd_L1 m (i : Int)).length : Int)
def outerOf (n : List Int) (m : List (List Int)) : List Int := (List.range m.length).map (reachOf n m)
def hasShape (n : List Int) (m : List (List Int)) : Bool := isPartition n && decide (n.length ≤ m.length) && isInside n (outerOf n m)
def shapeOf (n : List Int) (m : List (List Int)) : List Int × List Int × Bool := if hasShape n m then (outerOf n m, n, true) else ([], [], false)
theorem outerOf_length (n : List Int) (m : List (List Int)) : (outerOf n m).length = m.length := by simp [outerOf]
theorem outerOf_rd (n : List Int) (m : List (List Int)) (i : Nat) (h : i < m.length) : rd (outerOf n m) (i : Int) = at0 n (i : Int) + ((rd_L1 m (i : Int)).length : Int) := by
  rw [rd_eq _ i (by rw [outerOf_length]; exact h)]
  simp [outerOf, reachOf]
theorem at0_bd {n : List Int} (h : isPartition n = true) (i : Int) : 0 ≤ at0 n i ∧ at0 n i ≤ 9 := by
  have hb := (isPartition_bd h).2.2
  unfold at0
  split
  · rename_i hi
    obtain ⟨j, rfl⟩ : ∃ j : Nat, i = (j : Int) := ⟨i.toNat, by omega⟩
    have := hb _ (rd_mem n j (by omega))
    omega
  · omega
theorem hasShape_bd {n : List Int} {m : List (List Int)} (h : hasShape n m = true) : isPartition n = true ∧ n.length ≤ m.length ∧ m.length ≤ 9 ∧ isPartition (outerOf n m) = true ∧ (∀ i, i < m.length → 1 ≤ at0 n (i : Int) + ((rd_L1 m (i : Int)).length : Int) ∧ at0 n (i : Int) + ((rd_L1 m (i : Int)).length : Int) ≤ 9) := by
  unfold hasShape at h
  simp only [Bool.and_eq_true, decide_eq_true_eq] at h
  obtain ⟨⟨h1, h2⟩, h3⟩ := h
  obtain ⟨_, h4, _, _⟩ := isInside_len h3
  obtain ⟨_, g2, g3⟩ := isPartition_bd h4
  rw [outerOf_length] at g2
  refine ⟨h1, h2, g2, h4, fun i hi => ?_⟩
  have := g3 _ (rd_mem (outerOf n m) i (by rw [outerOf_length]; exact hi))
  rw [outerOf_rd n m i hi] at this
  exact this
theorem range_snoc' (n : List Int) (m : List (List Int)) (i : Nat) : (List.range (i + 1)).map (reachOf n m) = (List.range i).map (reachOf n m) ++ [reachOf n m i] := by simp [List.range_succ]
theorem impl_ShapeOf_ev (n : List Int) (m : List (List Int)) (hn : n.length ≤ 1048576) (hm : m.length ≤ 1048576) (hr : ∀ r ∈ m, r.length ≤ 1048576) : Ev (fun k => impl_ShapeOf.f k n m) (shapeOf n m) := by
  unfold impl_ShapeOf.f
  refine Ev.bind (impl_IsPartition_ev n hn) (ev_ite (fun h1 => ?_) (fun h1 => ?_))
  · refine Ev.step (fun k => by rw [impl_ShapeOf.j0]) ?_
    by_cases h2 : n.length ≤ m.length
    · refine ev_neg (by simpa using h2) (ev_bindc (b := n) (by unfold slices_Clone_int_int.f; rw [if_pos (by omega)]) ?_)
      have key : ∀ i, i ≤ m.length → Ev (fun k => impl_ShapeOf.l0 k m (m.length : Int) (i : Int) n m ((List.range i).map (reachOf n m)) n) (shapeOf n m) := by
        refine downTo m.length ?_ ?_
        · refine Ev.step (fun k => by rw [impl_ShapeOf.l0]) ?_
          refine ev_neg (by omega) (Ev.bind (impl_IsShape_ev (outerOf n m) n (by rw [outerOf_length]; omega) hn) (ev_ite (fun h3 => ?_) (fun h3 => ?_)))
          · refine ev_val ?_
            unfold shapeOf hasShape
            rw [h1, h3, decide_eq_true h2]; rfl
          · simp only [Bool.not_eq_true] at h3
            refine ev_val ?_
            unfold shapeOf hasShape
            rw [h3, Bool.and_false]; rfl
        · intro i hi ih
          have hb := at0_bd h1 (i : Int)
          have hl := hr _ (rows_mem m i hi)
          refine Ev.step (fun k => by rw [impl_ShapeOf.l0]) ?_
          refine ev_pos (by omega) (ev_pos (by omega) (ev_pos (by omega) (ev_bindc (impl_at_eq n _ hn) (ev_pos (by simp; omega) ?_))))
          rw [wrap_succ (by omega), wrap_id (by omega) (by omega)]
          rw [range_snoc', reachOf] at ih
          exact ih
      exact key 0 (by omega)
    · refine ev_pos (by simpa using h2) (ev_val ?_)
      unfold shapeOf hasShape
      rw [decide_eq_false h2, Bool.and_false]; rfl
  · simp only [Bool.not_eq_true] at h1
    refine Ev.step (fun k => by rw [impl_ShapeOf.j0]) ?_
    refine ev_pos rfl (ev_val ?_)
    unfold shapeOf hasShape
    rw [h1]; rfl
theorem spec_ShapeOf_ev (n : List Int) (m : List (List Int)) (hn : n.length ≤ 1048576) (hm : m.length ≤ 1048576) (hr : ∀ r ∈ m, r.length ≤ 1048576) : Ev (fun k => spec_ShapeOf.f k n m) (shapeOf n m) := by
  have hfalse : ∀ c : Bool, c = true → shapeOf n m = ([], [], false) → Ev (fun k => spec_ShapeOf.j0 k c n m n) (shapeOf n m) := by
    intro c hc hs
    refine Ev.step (fun k => by rw [spec_ShapeOf.j0]) ?_
    exact ev_pos hc (ev_val hs.symm)
  unfold spec_ShapeOf.f
  refine ev_bindc rfl (ev_pos (by simp; omega) (ev_bindc (b := n) (by simp) (Ev.bind (spec_IsPartition_ev n hn) (ev_ite (fun h1 => ev_ite (fun h2 => ?_) (fun h2 => ?_)) (fun h1 => ?_)))))
  · refine hfalse true rfl ?_
    unfold shapeOf hasShape
    rw [decide_eq_false (by omega), Bool.and_false]; rfl
  · by_cases h9 : (m.length : Int) > 9
    · refine hfalse _ (decide_eq_true h9) ?_
      unfold shapeOf
      rw [if_neg]
      intro h
      have := (hasShape_bd h).2.2.1
      omega
    · refine Ev.step (fun k => by rw [spec_ShapeOf.j0]) ?_
      refine ev_neg (by simpa using h9) ?_
      have key : ∀ i, i ≤ m.length → Ev (fun k => spec_ShapeOf.l0 k (i : Int) n m ((List.range i).map (reachOf n m)) n) (shapeOf n m) := by
        refine downTo m.length ?_ ?_
        · refine Ev.step (fun k => by rw [spec_ShapeOf.l0]) ?_
          refine ev_neg (by omega) (Ev.bind (spec_IsShape_ev (outerOf n m) n (by rw [outerOf_length]; omega) hn) (ev_ite (fun h3 => ?_) (fun h3 => ?_)))
          · refine ev_val ?_
            unfold shapeOf hasShape
            rw [h1, h3, decide_eq_true (show n.length ≤ m.length by omega)]; rfl
          · simp only [Bool.not_eq_true] at h3
            refine ev_val ?_
            unfold shapeOf hasShape
            rw [h3, Bool.and_false]; rfl
        · intro i hi ih
          have hb := at0_bd h1 (i : Int)
          have hl := hr _ (rows_mem m i hi)
          refine Ev.step (fun k => by rw [spec_ShapeOf.l0]) ?_
          refine ev_pos (by omega) (ev_bindc (spec_l2At_eq n _) (ev_pos (by omega) (ev_pos (by simp; omega) ?_)))
          rw [wrap_succ (by omega), wrap_id (by omega) (by omega)]
          rw [range_snoc', reachOf] at ih
          exact ih
      exact key 0 (by omega)
  · simp only [Bool.not_eq_true] at h1
    refine hfalse true rfl ?_
    unfold shapeOf hasShape
    rw [h1]; rfl
end Go.Proofs.Ytljjjdgnpnnmoaa.Q

set_option linter.unusedVariables false
set_option linter.unusedSimpArgs false
namespace Go.Proofs.Ytljjjdgnpnnmoaa.Q
open Go.RowKit Go.Proofs.Ytljjjdgnpnnmoaa.F Go.Proofs.YtljjjdgnpnnmoaaW.PrintWords Go.Proofs.YtljjjdgnpnnmoaaW.PrintLast Go.Proofs.YtljjjdgnpnnmoaaW.PrintMore
def entryOf (n : List Int) (m : List (List Int)) (r c : Int) : Int := if 0 ≤ r ∧ r < (m.length : Int) then at0 (rd_L1 m r) (c - at0 n r) else 0
theorem impl_entry_eq (n : List Int) (m : List (List Int)) (r c : Int) (h1 : isPartition n = true) (hm : m.length ≤ 1048576) (hr : ∀ q ∈ m, q.length ≤ 1048576) (hc : -1000 ≤ c) (hc2 : c ≤ 2097152) : impl_Tableau_entry.f n m r c = some (entryOf n m r c) := by
  have hn := (isPartition_bd h1).2.1
  have hb := at0_bd h1 r
  unfold impl_Tableau_entry.f entryOf
  rw [wrap_id (by omega) (by omega), impl_within_eq]
  simp only [Option.bind_some]
  by_cases h : 0 ≤ r ∧ r < (m.length : Int)
  · obtain ⟨j, rfl⟩ : ∃ j : Nat, r = (j : Int) := ⟨r.toNat, by omega⟩
    rw [if_pos h, if_pos (by rw [decide_eq_true_eq]; omega), if_pos h.1, if_pos h.2, impl_at_eq n _ (by omega)]
    simp only [Option.bind_some]
    rw [wrap_id (by omega) (by omega), impl_at_eq _ _ (hr _ (rows_mem m j (by omega)))]
    rfl
  · rw [if_neg h, if_neg (by rw [decide_eq_true_eq]; omega)]
theorem spec_entry_ev (n : List Int) (m : List (List Int)) (r c : Int) (h1 : isPartition n = true) (hc : -1000 ≤ c) (hc2 : c ≤ 2097152) : Ev (fun k => spec_l5Entry.f k n m r c) (entryOf n m r c) := by
  have hb := at0_bd h1 r
  unfold spec_l5Entry.f entryOf
  refine ev_ite (fun h => ?_) (fun h => ?_)
  · refine Ev.step (fun k => by rw [spec_l5Entry.j0]) ?_
    exact ev_pos rfl (ev_val (by rw [if_neg (by omega)]))
  · refine Ev.step (fun k => by rw [spec_l5Entry.j0]) ?_
    refine ev_ite (fun h2 => ev_val ?_) (fun h2 => ?_)
    · rw [decide_eq_true_eq] at h2
      rw [if_neg (by omega)]
    · rw [decide_eq_true_eq] at h2
      rw [if_pos (by omega)]
      refine ev_bindc (spec_l2At_eq n r) ?_
      rw [wrap_id (by omega) (by omega)]
      unfold at0
      generalize rd_L1 m r = q
      generalize (if 0 ≤ r ∧ r < (n.length : Int) then rd n r else 0) = z
      refine ev_ite (fun h3 => ev_val (by rw [if_neg (by omega)])) (fun h3 => ev_pos (by omega) (ev_pos (by omega) (ev_ite (fun h4 => ev_val (by rw [if_neg (by omega)])) (fun h4 => ev_pos (by omega) (ev_pos (by omega) (ev_val (by rw [if_pos (by omega)])))))))
def CellOk (n : List Int) (m : List (List Int)) (i k : Nat) : Prop :=
  (1 ≤ rd (rd_L1 m (i : Int)) (k : Int) ∧ rd (rd_L1 m (i : Int)) (k : Int) ≤ 9) ∧ (0 < k → rd (rd_L1 m (i : Int)) ((k - 1 : Nat) : Int) ≤ rd (rd_L1 m (i : Int)) (k : Int)) ∧ (0 < i → entryOf n m ((i - 1 : Nat) : Int) (at0 n (i : Int) + k) < rd (rd_L1 m (i : Int)) (k : Int))
instance (n : List Int) (m : List (List Int)) (i k : Nat) : Decidable (CellOk n m i k) := by unfold CellOk; infer_instance
def isTab (n : List Int) (m : List (List Int)) : Bool := hasShape n m && (List.range m.length).all (fun i => (List.range (rd_L1 m (i : Int)).length).all (fun k => decide (CellOk n m i k)))
theorem isTab_iff {n : List Int} {m : List (List Int)} : isTab n m = true ↔ hasShape n m = true ∧ ∀ i, i < m.length → ∀ k, k < (rd_L1 m (i : Int)).length → CellOk n m i k := by
  unfold isTab
  rw [Bool.and_eq_true, List.all_eq_true]
  constructor
  · rintro ⟨h1, h2⟩
    refine ⟨h1, fun i hi k hk => ?_⟩
    have := h2 i (List.mem_range.2 hi)
    rw [List.all_eq_true] at this
    simpa using this k (List.mem_range.2 hk)
  · rintro ⟨h1, h2⟩
    refine ⟨h1, fun i hi => ?_⟩
    rw [List.all_eq_true]
    intro k hk
    simpa using h2 i (List.mem_range.1 hi) k (List.mem_range.1 hk)
theorem impl_IsTableau_l1 (n : List Int) (m : List (List Int)) (hs : hasShape n m = true) (hr : ∀ q ∈ m, q.length ≤ 1048576) (i : Nat) (hi : i < m.length) (b : Bool)
    (hnext : Ev (fun k => impl_IsTableau.l0 k m (m.length : Int) ((i + 1 : Nat) : Int) n m) b) :
    ∀ j, j ≤ (rd_L1 m (i : Int)).length → ∃ b', Ev (fun k => impl_IsTableau.l1 k (i : Int) (rd_L1 m (i : Int)) m (m.length : Int) (i : Int) (rd_L1 m (i : Int)) ((rd_L1 m (i : Int)).length : Int) (j : Int) n m) b' ∧ (b' = true ↔ (∀ k, j ≤ k → k < (rd_L1 m (i : Int)).length → CellOk n m i k) ∧ b = true) := by
  obtain ⟨h1, h2, h3, _, h5⟩ := hasShape_bd hs
  have hlen := hr _ (rows_mem m i hi)
  have hrow := h5 i hi
  have hb := at0_bd h1 (i : Int)
  refine downTo _ ?_ ?_
  · refine ⟨b, ?_, ?_⟩
    · refine Ev.step (fun k => by rw [impl_IsTableau.l1]) ?_
      refine ev_neg (by omega) ?_
      rw [wrap_succ (by omega)]; exact hnext
    · constructor
      · intro h; exact ⟨fun k a c => by omega, h⟩
      · intro h; exact h.2
  · rintro j hj ⟨b', hb', hiff⟩
    have hcell : (∀ k, j ≤ k → k < (rd_L1 m (i : Int)).length → CellOk n m i k) ↔ CellOk n m i j ∧ ∀ k, j + 1 ≤ k → k < (rd_L1 m (i : Int)).length → CellOk n m i k := by
      constructor
      · intro h; exact ⟨h j (Nat.le_refl _) hj, fun k a c => h k (by omega) c⟩
      · rintro ⟨h, h'⟩ k a c
        by_cases e : k = j
        · subst e; exact h
        · exact h' k (by omega) c
    have hup : wrap64 ((i : Int) - 1) = (i : Int) - 1 := wrap_id (by omega) (by omega)
    have hcol : wrap64 (at0 n (i : Int) + (j : Int)) = at0 n (i : Int) + j := wrap_id (by omega) (by omega)
    have tail : Ev (fun k => impl_IsTableau.l1 k (i : Int) (rd_L1 m (i : Int)) m (m.length : Int) (i : Int) (rd_L1 m (i : Int)) ((rd_L1 m (i : Int)).length : Int) (wrap64 ((j : Int) + 1)) n m) b' := by
      rw [wrap_succ (by omega)]; exact hb'
    by_cases c1 : 1 ≤ rd (rd_L1 m (i : Int)) (j : Int) ∧ rd (rd_L1 m (i : Int)) (j : Int) ≤ 9
    · by_cases c2 : 0 < j → rd (rd_L1 m (i : Int)) ((j - 1 : Nat) : Int) ≤ rd (rd_L1 m (i : Int)) (j : Int)
      · by_cases c3 : 0 < i → entryOf n m ((i - 1 : Nat) : Int) (at0 n (i : Int) + j) < rd (rd_L1 m (i : Int)) (j : Int)
        · refine ⟨b', ?_, ?_⟩
          · refine Ev.step (fun k => by rw [impl_IsTableau.l1]) ?_
            refine ev_pos (by omega) (ev_pos (by omega) (ev_pos (by omega) (ev_bindc (impl_within_eq _ _ _) (ev_pos (decide_eq_true c1) ?_))))
            have up : Ev (fun k => if (i : Int) > 0 then ((impl_at.f n (i : Int)).bind fun t222 => ((impl_Tableau_entry.f n m (wrap64 ((i : Int) - 1)) (wrap64 (t222 + (j : Int)))).bind fun t223 => (if (rd (rd_L1 m (i : Int)) (j : Int)) ≤ t223 then (some false) else (impl_IsTableau.l1 k (i : Int) (rd_L1 m (i : Int)) m (m.length : Int) (i : Int) (rd_L1 m (i : Int)) ((rd_L1 m (i : Int)).length : Int) (wrap64 ((j : Int) + 1)) n m)))) else (impl_IsTableau.l1 k (i : Int) (rd_L1 m (i : Int)) m (m.length : Int) (i : Int) (rd_L1 m (i : Int)) ((rd_L1 m (i : Int)).length : Int) (wrap64 ((j : Int) + 1)) n m)) b' := by
              refine ev_ite (fun hp => ?_) (fun _ => tail)
              refine ev_bindc (impl_at_eq n _ (by omega)) ?_
              rw [hup, hcol]
              refine ev_bindc (impl_entry_eq n m _ _ h1 (by omega) hr (by omega) (by omega)) (ev_neg ?_ tail)
              have := c3 (by omega)
              rw [show ((i - 1 : Nat) : Int) = (i : Int) - 1 by omega] at this
              omega
            by_cases hj0 : (j : Int) > 0
            · have e : wrap64 ((j : Int) - 1) = ((j - 1 : Nat) : Int) := by unfold wrap64; omega
              rw [e]
              have := c2 (by omega)
              exact ev_pos hj0 (ev_pos (by omega) (ev_pos (by omega) (ev_neg (by omega) up)))
            · exact ev_neg hj0 up
          · rw [hiff, hcell]
            constructor
            · rintro ⟨g1, g2⟩; exact ⟨⟨⟨c1, c2, c3⟩, g1⟩, g2⟩
            · rintro ⟨⟨_, g1⟩, g2⟩; exact ⟨g1, g2⟩
        · have hi0 : 0 < i := Classical.byContradiction fun h => c3 (fun h' => absurd h' h)
          have hge : ¬ entryOf n m ((i - 1 : Nat) : Int) (at0 n (i : Int) + j) < rd (rd_L1 m (i : Int)) (j : Int) := fun h => c3 (fun _ => h)
          refine ⟨false, ?_, ?_⟩
          · refine Ev.step (fun k => by rw [impl_IsTableau.l1]) ?_
            refine ev_pos (by omega) (ev_pos (by omega) (ev_pos (by omega) (ev_bindc (impl_within_eq _ _ _) (ev_pos (decide_eq_true c1) ?_))))
            have up : Ev (fun k => if (i : Int) > 0 then ((impl_at.f n (i : Int)).bind fun t222 => ((impl_Tableau_entry.f n m (wrap64 ((i : Int) - 1)) (wrap64 (t222 + (j : Int)))).bind fun t223 => (if (rd (rd_L1 m (i : Int)) (j : Int)) ≤ t223 then (some false) else (impl_IsTableau.l1 k (i : Int) (rd_L1 m (i : Int)) m (m.length : Int) (i : Int) (rd_L1 m (i : Int)) ((rd_L1 m (i : Int)).length : Int) (wrap64 ((j : Int) + 1)) n m)))) else (impl_IsTableau.l1 k (i : Int) (rd_L1 m (i : Int)) m (m.length : Int) (i : Int) (rd_L1 m (i : Int)) ((rd_L1 m (i : Int)).length : Int) (wrap64 ((j : Int) + 1)) n m)) false := by
              refine ev_pos (by omega) (ev_bindc (impl_at_eq n _ (by omega)) ?_)
              rw [hup, hcol]
              refine ev_bindc (impl_entry_eq n m _ _ h1 (by omega) hr (by omega) (by omega)) (ev_pos ?_ (ev_val rfl))
              rw [show ((i - 1 : Nat) : Int) = (i : Int) - 1 by omega] at hge
              omega
            by_cases hj0 : (j : Int) > 0
            · have e : wrap64 ((j : Int) - 1) = ((j - 1 : Nat) : Int) := by unfold wrap64; omega
              rw [e]
              have := c2 (by omega)
              exact ev_pos hj0 (ev_pos (by omega) (ev_pos (by omega) (ev_neg (by omega) up)))
            · exact ev_neg hj0 up
          · rw [hcell]
            constructor
            · intro h; cases h
            · rintro ⟨⟨⟨_, _, g⟩, _⟩, _⟩; exact absurd g c3
      · have hj0 : 0 < j := Classical.byContradiction fun h => c2 (fun h' => absurd h' h)
        have hlt : ¬ rd (rd_L1 m (i : Int)) ((j - 1 : Nat) : Int) ≤ rd (rd_L1 m (i : Int)) (j : Int) := fun h => c2 (fun _ => h)
        refine ⟨false, ?_, ?_⟩
        · refine Ev.step (fun k => by rw [impl_IsTableau.l1]) ?_
          have e : wrap64 ((j : Int) - 1) = ((j - 1 : Nat) : Int) := by unfold wrap64; omega
          rw [e]
          exact ev_pos (by omega) (ev_pos (by omega) (ev_pos (by omega) (ev_bindc (impl_within_eq _ _ _) (ev_pos (decide_eq_true c1) (ev_pos (by omega) (ev_pos (by omega) (ev_pos (by omega) (ev_pos (by omega) (ev_val rfl)))))))))
        · rw [hcell]
          constructor
          · intro h; cases h
          · rintro ⟨⟨⟨_, g, _⟩, _⟩, _⟩; exact absurd g c2
    · refine ⟨false, ?_, ?_⟩
      · refine Ev.step (fun k => by rw [impl_IsTableau.l1]) ?_
        exact ev_pos (by omega) (ev_pos (by omega) (ev_pos (by omega) (ev_bindc (impl_within_eq _ _ _) (ev_neg (by rw [decide_eq_true_eq]; exact c1) (ev_val rfl)))))
      · rw [hcell]
        constructor
        · intro h; cases h
        · rintro ⟨⟨⟨g, _, _⟩, _⟩, _⟩; exact absurd g c1
theorem impl_IsTableau_ev (n : List Int) (m : List (List Int)) (hn : n.length ≤ 1048576) (hm : m.length ≤ 1048576) (hr : ∀ r ∈ m, r.length ≤ 1048576) : Ev (fun k => impl_IsTableau.f k n m) (isTab n m) := by
  unfold impl_IsTableau.f
  refine Ev.bind (impl_ShapeOf_ev n m hn hm hr) ?_
  by_cases hs : hasShape n m = true
  · rw [show shapeOf n m = (outerOf n m, n, true) by unfold shapeOf; rw [if_pos hs]]
    refine ev_pos rfl ?_
    have key : ∀ i, i ≤ m.length → ∃ b, Ev (fun k => impl_IsTableau.l0 k m (m.length : Int) (i : Int) n m) b ∧ (b = true ↔ ∀ i', i ≤ i' → i' < m.length → ∀ k, k < (rd_L1 m (i' : Int)).length → CellOk n m i' k) := by
      refine downTo m.length ?_ ?_
      · refine ⟨true, ?_, by simp; intro i' a b; omega⟩
        refine Ev.step (fun k => by rw [impl_IsTableau.l0]) ?_
        exact ev_neg (by omega) (ev_val rfl)
      · rintro i hi ⟨b, hb, hiff⟩
        obtain ⟨b', hb', hiff'⟩ := impl_IsTableau_l1 n m hs hr i hi b hb 0 (by omega)
        refine ⟨b', ?_, ?_⟩
        · refine Ev.step (fun k => by rw [impl_IsTableau.l0]) ?_
          exact ev_pos (by omega) (ev_pos (by omega) (ev_pos (by omega) hb'))
        · rw [hiff', hiff]
          constructor
          · rintro ⟨g1, g2⟩ i' a c k hk
            by_cases e : i' = i
            · subst e; exact g1 k (by omega) hk
            · exact g2 i' (by omega) c k hk
          · intro g; exact ⟨fun k _ hk => g i (Nat.le_refl _) hi k hk, fun i' a c k hk => g i' (by omega) c k hk⟩
    obtain ⟨b, hb, hiff⟩ := key 0 (by omega)
    refine ev_eq hb ?_
    rw [Bool.eq_iff_iff, hiff, isTab_iff]
    exact ⟨fun g => ⟨hs, fun i hi k hk => g i (by omega) hi k hk⟩, fun g i _ hi k hk => g.2 i hi k hk⟩
  · rw [show shapeOf n m = ([], [], false) by unfold shapeOf; rw [if_neg hs]]
    refine ev_neg (by simp) (ev_val ?_)
    simp only [Bool.not_eq_true] at hs
    unfold isTab; rw [hs]; rfl
theorem entryOf_cell (n : List Int) (m : List (List Int)) (i j : Nat) (hi : i < m.length) (hj : j < (rd_L1 m (i : Int)).length) : entryOf n m (i : Int) (at0 n (i : Int) + j) = rd (rd_L1 m (i : Int)) (j : Int) := by
  unfold entryOf
  rw [if_pos (by omega), show at0 n (i : Int) + (j : Int) - at0 n (i : Int) = (j : Int) by omega, at0_nat _ j hj]
theorem entryOf_left (n : List Int) (m : List (List Int)) (i j : Nat) (hi : i < m.length) (hj : j < (rd_L1 m (i : Int)).length) : entryOf n m (i : Int) (at0 n (i : Int) + j - 1) = if 0 < j then rd (rd_L1 m (i : Int)) ((j - 1 : Nat) : Int) else 0 := by
  unfold entryOf
  rw [if_pos (by omega)]
  by_cases h : 0 < j
  · rw [if_pos h, show at0 n (i : Int) + (j : Int) - 1 - at0 n (i : Int) = ((j - 1 : Nat) : Int) by omega, at0_nat _ (j - 1) (by omega)]
  · rw [if_neg h, at0_out _ _ (.inl (by omega))]
theorem spec_IsTableau_l1 (n : List Int) (m : List (List Int)) (hs : hasShape n m = true) (i : Nat) (hi : i < m.length) (b : Bool)
    (hnext : Ev (fun k => spec_IsTableau.l0 k ((i + 1 : Nat) : Int) n m (outerOf n m) n) b) :
    ∀ j, j ≤ (rd_L1 m (i : Int)).length → ∃ b', Ev (fun k => spec_IsTableau.l1 k (i : Int) (at0 n (i : Int) + (j : Int)) n m (outerOf n m) n) b' ∧ (b' = true ↔ (∀ k, j ≤ k → k < (rd_L1 m (i : Int)).length → CellOk n m i k) ∧ b = true) := by
  obtain ⟨h1, h2, h3, _, h5⟩ := hasShape_bd hs
  have hrow := h5 i hi
  have hb := at0_bd h1 (i : Int)
  have hol := outerOf_length n m
  have hor := outerOf_rd n m i hi
  refine downTo _ ?_ ?_
  · refine ⟨b, ?_, ?_⟩
    · refine Ev.step (fun k => by rw [spec_IsTableau.l1]) ?_
      refine ev_pos (by omega) (ev_pos (by omega) (ev_neg (by omega) ?_))
      rw [wrap_succ (by omega)]; exact hnext
    · constructor
      · intro h; exact ⟨fun k a c => by omega, h⟩
      · intro h; exact h.2
  · rintro j hj ⟨b', hb', hiff⟩
    have hcell : (∀ k, j ≤ k → k < (rd_L1 m (i : Int)).length → CellOk n m i k) ↔ CellOk n m i j ∧ ∀ k, j + 1 ≤ k → k < (rd_L1 m (i : Int)).length → CellOk n m i k := by
      constructor
      · intro h; exact ⟨h j (Nat.le_refl _) hj, fun k a c => h k (by omega) c⟩
      · rintro ⟨h, h'⟩ k a c
        by_cases e : k = j
        · subst e; exact h
        · exact h' k (by omega) c
    have hx := entryOf_cell n m i j hi hj
    have hleft := entryOf_left n m i j hi hj
    have hup : wrap64 ((i : Int) - 1) = (i : Int) - 1 := wrap_id (by omega) (by omega)
    have hc1 : wrap64 (at0 n (i : Int) + (j : Int) - 1) = at0 n (i : Int) + j - 1 := wrap_id (by omega) (by omega)
    have hc2 : wrap64 (at0 n (i : Int) + (j : Int) + 1) = at0 n (i : Int) + ((j + 1 : Nat) : Int) := by rw [wrap_id (by omega) (by omega)]; omega
    have hj2 : ∀ left : Int, left = (if 0 < j then rd (rd_L1 m (i : Int)) ((j - 1 : Nat) : Int) else 0) → ∃ v, Ev (fun k => spec_IsTableau.j2 k (i : Int) (at0 n (i : Int) + (j : Int)) (rd (rd_L1 m (i : Int)) (j : Int)) left n m (outerOf n m) n) v ∧ (v = true ↔ (∀ k, j ≤ k → k < (rd_L1 m (i : Int)).length → CellOk n m i k) ∧ b = true) := by
      intro left hl
      rw [hcell]
      by_cases c1 : 1 ≤ rd (rd_L1 m (i : Int)) (j : Int) ∧ rd (rd_L1 m (i : Int)) (j : Int) ≤ 9
      · by_cases c2 : left > rd (rd_L1 m (i : Int)) (j : Int)
        · refine ⟨false, ?_, ?_⟩
          · refine Ev.step (fun k => by rw [spec_IsTableau.j2]) ?_
            exact ev_bindc (spec_l1In_eq _ _ _) (ev_pos (decide_eq_true c1) (ev_pos c2 (ev_val rfl)))
          · constructor
            · intro h; cases h
            · rintro ⟨⟨⟨_, g, _⟩, _⟩, _⟩
              exfalso
              by_cases hj0 : 0 < j
              · rw [if_pos hj0] at hl; have := g hj0; omega
              · rw [if_neg hj0] at hl; omega
        · by_cases c3 : entryOf n m ((i : Int) - 1) (at0 n (i : Int) + j) ≥ rd (rd_L1 m (i : Int)) (j : Int)
          · refine ⟨false, ?_, ?_⟩
            · refine Ev.step (fun k => by rw [spec_IsTableau.j2]) ?_
              rw [hup]
              exact ev_bindc (spec_l1In_eq _ _ _) (ev_pos (decide_eq_true c1) (ev_neg c2 (Ev.bind (spec_entry_ev n m _ _ h1 (by omega) (by omega)) (ev_pos c3 (ev_val rfl)))))
            · constructor
              · intro h; cases h
              · rintro ⟨⟨⟨_, _, g⟩, _⟩, _⟩
                exfalso
                by_cases hi0 : 0 < i
                · have := g hi0
                  rw [show ((i - 1 : Nat) : Int) = (i : Int) - 1 by omega] at this
                  omega
                · have : entryOf n m ((i : Int) - 1) (at0 n (i : Int) + j) = 0 := by unfold entryOf; rw [if_neg (by omega)]
                  omega
          · refine ⟨b', ?_, ?_⟩
            · refine Ev.step (fun k => by rw [spec_IsTableau.j2]) ?_
              rw [hup, hc2]
              exact ev_bindc (spec_l1In_eq _ _ _) (ev_pos (decide_eq_true c1) (ev_neg c2 (Ev.bind (spec_entry_ev n m _ _ h1 (by omega) (by omega)) (ev_neg c3 hb'))))
            · rw [hiff]
              constructor
              · rintro ⟨g1, g2⟩
                refine ⟨⟨⟨c1, fun hj0 => ?_, fun hi0 => ?_⟩, g1⟩, g2⟩
                · rw [if_pos hj0] at hl; omega
                · rw [show ((i - 1 : Nat) : Int) = (i : Int) - 1 by omega]; omega
              · rintro ⟨⟨_, g1⟩, g2⟩; exact ⟨g1, g2⟩
      · refine ⟨false, ?_, ?_⟩
        · refine Ev.step (fun k => by rw [spec_IsTableau.j2]) ?_
          exact ev_bindc (spec_l1In_eq _ _ _) (ev_neg (by rw [decide_eq_true_eq]; exact c1) (ev_val rfl))
        · constructor
          · intro h; cases h
          · rintro ⟨⟨⟨g, _, _⟩, _⟩, _⟩; exact absurd g c1
    obtain ⟨v, hv, hvi⟩ := hj2 _ rfl
    refine ⟨v, ?_, hvi⟩
    refine Ev.step (fun k => by rw [spec_IsTableau.l1]) ?_
    rw [hc1]
    have e1 := spec_entry_ev n m (i : Int) (at0 n (i : Int) + j) h1 (by omega) (by omega)
    rw [hx] at e1
    refine ev_pos (by omega) (ev_pos (by omega) (ev_pos (by omega) (Ev.bind e1 (ev_ite (fun hp => ?_) (fun hp => ?_)))))
    · have e2 := spec_entry_ev n m (i : Int) (at0 n (i : Int) + j - 1) h1 (by omega) (by omega)
      rw [hleft] at e2
      exact Ev.bind e2 hv
    · have : (if 0 < j then rd (rd_L1 m (i : Int)) ((j - 1 : Nat) : Int) else 0) = 0 := by rw [if_neg (by omega)]
      rw [this] at hv
      exact hv
theorem spec_IsTableau_ev (n : List Int) (m : List (List Int)) (hn : n.length ≤ 1048576) (hm : m.length ≤ 1048576) (hr : ∀ r ∈ m, r.length ≤ 1048576) : Ev (fun k => spec_IsTableau.f k n m) (isTab n m) := by
  unfold spec_IsTableau.f
  refine Ev.bind (spec_ShapeOf_ev n m hn hm hr) ?_
  by_cases hs : hasShape n m = true
  · rw [show shapeOf n m = (outerOf n m, n, true) by unfold shapeOf; rw [if_pos hs]]
    refine ev_pos rfl ?_
    have hol := outerOf_length n m
    have key : ∀ i, i ≤ m.length → ∃ b, Ev (fun k => spec_IsTableau.l0 k (i : Int) n m (outerOf n m) n) b ∧ (b = true ↔ ∀ i', i ≤ i' → i' < m.length → ∀ k, k < (rd_L1 m (i' : Int)).length → CellOk n m i' k) := by
      refine downTo m.length ?_ ?_
      · refine ⟨true, ?_, by simp; intro i' a b; omega⟩
        refine Ev.step (fun k => by rw [spec_IsTableau.l0]) ?_
        exact ev_neg (by omega) (ev_val rfl)
      · rintro i hi ⟨b, hb, hiff⟩
        obtain ⟨b', hb', hiff'⟩ := spec_IsTableau_l1 n m hs i hi b hb 0 (by omega)
        refine ⟨b', ?_, ?_⟩
        · refine Ev.step (fun k => by rw [spec_IsTableau.l0]) ?_
          refine ev_pos (by omega) (ev_bindc (spec_l2At_eq n _) ?_)
          simpa using hb'
        · rw [hiff', hiff]
          constructor
          · rintro ⟨g1, g2⟩ i' a c k hk
            by_cases e : i' = i
            · subst e; exact g1 k (by omega) hk
            · exact g2 i' (by omega) c k hk
          · intro g; exact ⟨fun k _ hk => g i (Nat.le_refl _) hi k hk, fun i' a c k hk => g i' (by omega) c k hk⟩
    obtain ⟨b, hb, hiff⟩ := key 0 (by omega)
    refine ev_eq hb ?_
    rw [Bool.eq_iff_iff, hiff, isTab_iff]
    exact ⟨fun g => ⟨hs, fun i hi k hk => g i (by omega) hi k hk⟩, fun g i _ hi k hk => g.2 i hi k hk⟩
  · rw [show shapeOf n m = ([], [], false) by unfold shapeOf; rw [if_neg hs]]
    refine ev_neg (by simp) (ev_val ?_)
    simp only [Bool.not_eq_true] at hs
    unfold isTab; rw [hs]; rfl
end Go.Proofs.Ytljjjdgnpnnmoaa.Q

set_option linter.unusedVariables false
set_option linter.unusedSimpArgs false
namespace Go.Proofs.Ytljjjdgnpnnmoaa.Q
open Go.RowKit Go.Proofs.Ytljjjdgnpnnmoaa.F Go.Proofs.YtljjjdgnpnnmoaaW.PrintWords Go.Proofs.YtljjjdgnpnnmoaaW.PrintLast Go.Proofs.YtljjjdgnpnnmoaaW.PrintMore
theorem slices_Concat_l1 (m : List (List Int)) (hm : m.length ≤ 1048576) (hb : bulk m ≤ 1048576) : ∀ i, i ≤ m.length → Ev (fun k => slices_Concat_int_int.l1 k (m.take i).flatten m (m.length : Int) (i : Int)) m.flatten := by
  refine downTo m.length ?_ ?_
  · refine Ev.step (fun k => by rw [slices_Concat_int_int.l1]) ?_
    exact ev_neg (by omega) (ev_val (by rw [List.take_length]))
  · intro i hi h
    have e : (m.take i).flatten ++ rd_L1 m (i : Int) = (m.take (i + 1)).flatten := by rw [take_rows m i hi, List.flatten_append]; simp
    have hl : (m.take i).flatten.length + (rd_L1 m (i : Int)).length ≤ bulk m := by
      rw [← List.length_append, e, ← flatten_bulk m, List.length_flatten, List.length_flatten, List.map_take]
      conv => rhs; rw [← List.take_append_drop (i + 1) (m.map List.length), List.sum_append]
      omega
    refine Ev.step (fun k => by rw [slices_Concat_int_int.l1]) ?_
    refine ev_pos (by omega) (ev_pos (by omega) (ev_pos (by omega) (ev_pos (by omega) ?_)))
    rw [e, wrap_succ (by omega)]
    exact h
theorem slices_Concat_l0 (m : List (List Int)) (hm : m.length ≤ 1048576) (hb : bulk m ≤ 1048576) : ∀ i, i ≤ m.length → Ev (fun k => slices_Concat_int_int.l0 k m (((m.take i).flatten.length : Nat) : Int) m (m.length : Int) (i : Int)) m.flatten := by
  refine downTo m.length ?_ ?_
  · refine Ev.step (fun k => by rw [slices_Concat_int_int.l0]) ?_
    refine ev_neg (by omega) ?_
    rw [List.take_length, flatten_bulk]
    refine ev_bindc (b := []) (by unfold slices_Grow_int_int.f; rw [if_pos ⟨rfl, by omega, by omega⟩]) ?_
    have := slices_Concat_l1 m hm hb 0 (by omega)
    simpa using this
  · intro i hi h
    have e : (m.take i).flatten ++ rd_L1 m (i : Int) = (m.take (i + 1)).flatten := by rw [take_rows m i hi, List.flatten_append]; simp
    have hl : (m.take i).flatten.length + (rd_L1 m (i : Int)).length ≤ bulk m := by
      rw [← List.length_append, e, ← flatten_bulk m, List.length_flatten, List.length_flatten, List.map_take]
      conv => rhs; rw [← List.take_append_drop (i + 1) (m.map List.length), List.sum_append]
      omega
    have e2 : wrap64 (((m.take i).flatten.length : Nat) + ((rd_L1 m (i : Int)).length : Int)) = (((m.take (i + 1)).flatten.length : Nat) : Int) := by
      rw [← e, List.length_append, wrap_id (by omega) (by omega)]; omega
    refine Ev.step (fun k => by rw [slices_Concat_int_int.l0]) ?_
    refine ev_pos (by omega) (ev_pos (by omega) (ev_pos (by omega) ?_))
    rw [e2, wrap_succ (by omega)]
    exact ev_neg (by omega) h
theorem slices_Concat_ev (m : List (List Int)) (hm : m.length ≤ 1048576) (hb : bulk m ≤ 1048576) : Ev (fun k => slices_Concat_int_int.f k m) m.flatten := by
  unfold slices_Concat_int_int.f
  have := slices_Concat_l0 m hm hb 0 (by omega)
  simpa using this
end Go.Proofs.Ytljjjdgnpnnmoaa.Q

set_option linter.unusedVariables false
set_option linter.unusedSimpArgs false
namespace Go.Proofs.Ytljjjdgnpnnmoaa.Q
open Go.RowKit Go.Proofs.Ytljjjdgnpnnmoaa.F Go.Proofs.YtljjjdgnpnnmoaaW.PrintWords Go.Proofs.YtljjjdgnpnnmoaaW.PrintLast Go.Proofs.YtljjjdgnpnnmoaaW.PrintMore
end Go.Proofs.Ytljjjdgnpnnmoaa.Q

set_option linter.unusedVariables false
set_option linter.unusedSimpArgs false
namespace Go.Proofs.Ytljjjdgnpnnmoaa.Q
open Go.RowKit Go.Proofs.Ytljjjdgnpnnmoaa.F Go.Proofs.YtljjjdgnpnnmoaaW.PrintWords Go.Proofs.YtljjjdgnpnnmoaaW.PrintLast Go.Proofs.YtljjjdgnpnnmoaaW.PrintMore
def cellOf (G : List (List Int)) (i c : Int) : Int := if 0 ≤ i ∧ i < (G.length : Int) then at0 (rd_L1 G i) c else 0
theorem impl_cell_eq (G : List (List Int)) (i c : Int) (hG : G.length ≤ 1048576) (hr : ∀ q ∈ G, q.length ≤ 1048576) : impl_cell.f G i c = some (cellOf G i c) := by
  unfold impl_cell.f cellOf
  rw [wrap_id (by omega) (by omega), impl_within_eq]
  simp only [Option.bind_some]
  by_cases h : 0 ≤ i ∧ i < (G.length : Int)
  · obtain ⟨j, rfl⟩ : ∃ j : Nat, i = (j : Int) := ⟨i.toNat, by omega⟩
    rw [if_pos h, if_pos (by rw [decide_eq_true_eq]; omega), if_pos h.1, if_pos h.2, impl_at_eq _ _ (hr _ (rows_mem G j (by omega)))]
    rfl
  · rw [if_neg h, if_neg (by rw [decide_eq_true_eq]; omega)]
def gridRow (n : List Int) (m : List (List Int)) (i : Nat) : List Int := List.replicate (at0 n (i : Int)).toNat 0 ++ rd_L1 m (i : Int)
def gridOf (n : List Int) (m : List (List Int)) : List (List Int) := (List.range m.length).map (gridRow n m)
theorem gridOf_length (n : List Int) (m : List (List Int)) : (gridOf n m).length = m.length := by simp [gridOf]
theorem gridOf_row (n : List Int) (m : List (List Int)) (i : Nat) (h : i < m.length) : rd_L1 (gridOf n m) (i : Int) = gridRow n m i := by
  rw [rows_eq _ i (by rw [gridOf_length]; exact h)]; simp [gridOf]
theorem gridRow_length {n : List Int} (h : isPartition n = true) (m : List (List Int)) (i : Nat) : ((gridRow n m i).length : Int) = reachOf n m i := by
  have := at0_bd h (i : Int)
  unfold gridRow reachOf
  rw [List.length_append, List.length_replicate]; omega
theorem gridRow_at {n : List Int} (h : isPartition n = true) (m : List (List Int)) (i : Nat) (c : Int) (hc : 0 ≤ c) : at0 (gridRow n m i) c = at0 (rd_L1 m (i : Int)) (c - at0 n (i : Int)) := by
  have hb := at0_bd h (i : Int)
  have hl := gridRow_length h m i
  unfold reachOf at hl
  obtain ⟨j, rfl⟩ : ∃ j : Nat, c = (j : Int) := ⟨c.toNat, by omega⟩
  obtain ⟨z, hz⟩ : ∃ z : Nat, at0 n (i : Int) = (z : Int) := ⟨(at0 n (i : Int)).toNat, by omega⟩
  rw [hz] at hl ⊢
  by_cases h1 : j < (gridRow n m i).length
  · rw [at0_nat _ j h1, rd_nat, List.getD_eq_getElem?_getD]
    unfold gridRow
    rw [hz, Int.toNat_natCast]
    by_cases h2 : j < z
    · rw [List.getElem?_append_left (by simpa using h2), List.getElem?_replicate, if_pos h2, at0_out _ _ (by omega)]; rfl
    · rw [List.getElem?_append_right (by simpa using h2), List.length_replicate, show ((j : Int) - (z : Int)) = ((j - z : Nat) : Int) by omega, at0_nat _ _ (by omega), rd_nat, List.getD_eq_getElem?_getD]
  · rw [at0_out _ j (by omega), at0_out _ _ (by omega)]
theorem cellOf_grid {n : List Int} (h : isPartition n = true) (m : List (List Int)) (i c : Int) (hc : 0 ≤ c) : cellOf (gridOf n m) i c = entryOf n m i c := by
  unfold cellOf entryOf
  rw [gridOf_length]
  by_cases hi : 0 ≤ i ∧ i < (m.length : Int)
  · rw [if_pos hi, if_pos hi]
    obtain ⟨j, rfl⟩ : ∃ j : Nat, i = (j : Int) := ⟨i.toNat, by omega⟩
    rw [gridOf_row n m j (by omega), gridRow_at h m j c hc]
  · rw [if_neg hi, if_neg hi]
def squareRow (n : List Int) (m : List (List Int)) (r : Nat) : List Int := (List.range 11).map (fun c : Nat => entryOf n m (r : Int) (c : Int))
def squareOf (n : List Int) (m : List (List Int)) : List (List Int) := (List.range 11).map (squareRow n m)
theorem square_at (n : List Int) (m : List (List Int)) (r c : Nat) (hr : r < 11) (hc : c < 11) : (rd_L1 (squareOf n m) (r : Int)).length = 11 ∧ rd (rd_L1 (squareOf n m) (r : Int)) (c : Int) = entryOf n m (r : Int) (c : Int) := by
  have e : rd_L1 (squareOf n m) (r : Int) = squareRow n m r := by rw [rows_eq _ r (by simp [squareOf]; exact hr)]; simp [squareOf]
  rw [e]
  refine ⟨by simp [squareRow], ?_⟩
  rw [rd_eq _ c (by simp [squareRow]; exact hc)]; simp [squareRow]
theorem spec_grid_ev (n : List Int) (m : List (List Int)) (h : isPartition n = true) : Ev (fun k => spec_l13Grid.f k n m) (squareOf n m) := by
  unfold spec_l13Grid.f
  have inner : ∀ (r : Nat) (x3 : List (List Int)), Ev (fun k => spec_l13Grid.l0 k (x3 ++ [squareRow n m r]) (wrap64 ((r : Int) + 1)) n m) (squareOf n m) → x3.length < 5864062014805 → ∀ c, c ≤ 11 → Ev (fun k => spec_l13Grid.l1 k x3 (r : Int) ((List.range c).map (fun c : Nat => entryOf n m (r : Int) (c : Int)) ++ List.replicate (11 - c) 0) (c : Int) n m) (squareOf n m) := by
    intro r x3 hK hx
    refine downTo 11 ?_ ?_
    · refine Ev.step (fun k => by rw [spec_l13Grid.l1]) ?_
      refine ev_neg (by omega) (ev_pos hx ?_)
      simpa [squareRow] using hK
    · intro c hc ih
      refine Ev.step (fun k => by rw [spec_l13Grid.l1]) ?_
      refine ev_pos (by omega) (Ev.bind (spec_entry_ev n m r c h (by omega) (by omega)) (ev_pos (by omega) (ev_pos (by simp; omega) ?_)))
      rw [wrap_succ (by omega), Int.toNat_natCast]
      have e : ((List.range c).map (fun c : Nat => entryOf n m (r : Int) (c : Int)) ++ List.replicate (11 - c) 0).set c (entryOf n m (r : Int) (c : Int)) = (List.range (c + 1)).map (fun c : Nat => entryOf n m (r : Int) (c : Int)) ++ List.replicate (11 - (c + 1)) 0 := by
        rw [List.set_append_right _ _ (by simp), List.length_map, List.length_range, Nat.sub_self, show 11 - c = (11 - (c + 1)) + 1 by omega, List.replicate_succ, List.set_cons_zero, List.range_succ, List.map_append]
        simp
      rw [e]
      exact ih
  have key : ∀ r, r ≤ 11 → Ev (fun k => spec_l13Grid.l0 k ((List.range r).map (squareRow n m)) (r : Int) n m) (squareOf n m) := by
    refine downTo 11 ?_ ?_
    · refine Ev.step (fun k => by rw [spec_l13Grid.l0]) ?_
      exact ev_neg (by omega) (ev_val rfl)
    · intro r hr ih
      refine Ev.step (fun k => by rw [spec_l13Grid.l0]) ?_
      refine ev_pos (by omega) (ev_pos (by decide) ?_)
      have e : (List.range r).map (squareRow n m) ++ [squareRow n m r] = (List.range (r + 1)).map (squareRow n m) := by simp [List.range_succ]
      have := inner r ((List.range r).map (squareRow n m)) (by rw [e, wrap_succ (by omega)]; exact ih) (by simp; omega) 0 (by omega)
      simpa using this
  have := key 0 (by omega)
  simpa using this
def partRows (n : List Int) : List (List Int) → Nat → List (List Int)
  | [], _ => []
  | r :: G, i => if r.length = 0 then partRows n G (i + 1) else r.drop (at0 n (i : Int)).toNat :: partRows n G (i + 1)
theorem partRows_snoc (n : List Int) (r : List Int) : ∀ (G : List (List Int)) (i : Nat), partRows n (G ++ [r]) i = partRows n G i ++ (if r.length = 0 then [] else [r.drop (at0 n ((i + G.length : Nat) : Int)).toNat])
  | [], i => by simp only [List.nil_append, partRows, List.length_nil, Nat.add_zero]
  | q :: G, i => by
    simp only [List.cons_append, partRows, List.length_cons]
    rw [partRows_snoc n r G (i + 1), show i + 1 + G.length = i + (G.length + 1) by omega]
    split <;> rfl
theorem partRows_bd (n : List Int) (b : Nat) : ∀ (G : List (List Int)) (i : Nat), (∀ r ∈ G, r.length ≤ b) → (partRows n G i).length ≤ G.length ∧ ∀ r ∈ partRows n G i, r.length ≤ b
  | [], i, _ => ⟨by simp [partRows], by simp [partRows]⟩
  | r :: G, i, h => by
    obtain ⟨h1, h2⟩ := partRows_bd n b G (i + 1) (fun q hq => h q (by simp [hq]))
    simp only [partRows]
    split
    · exact ⟨by rw [List.length_cons]; omega, h2⟩
    · refine ⟨by rw [List.length_cons, List.length_cons]; omega, fun q hq => ?_⟩
      rcases List.mem_cons.1 hq with rfl | hq
      · have := h r (by simp); rw [List.length_drop]; omega
      · exact h2 q hq
def readRow (X : List (List Int)) (n o : List Int) (r : Nat) : List Int := (List.range ((rd o (r : Int)).toNat - (at0 n (r : Int)).toNat)).map (fun j : Nat => rd (rd_L1 X (r : Int)) (at0 n (r : Int) + (j : Int)))
def readRows (X : List (List Int)) (n o : List Int) : List (List Int) := (List.range o.length).map (readRow X n o)
theorem spec_l13Tableau_ev (X : List (List Int)) (n o : List Int) (hn : isPartition n = true) (hX : X.length = 11) (hXr : ∀ r : Nat, r < 11 → (rd_L1 X (r : Int)).length = 11) (ho : o.length ≤ 10) (ho2 : ∀ x ∈ o, x ≤ 11) : Ev (fun k => spec_l13Tableau.f k X n o) (n, readRows X n o) := by
  unfold spec_l13Tableau.f
  have hnl := (isPartition_bd hn).2.1
  refine ev_bindc rfl (ev_pos (by simp; omega) ?_)
  rw [List.nil_append]
  have key : ∀ r, r ≤ o.length → Ev (fun k => spec_l13Tableau.l0 k X n o (r : Int) n ((List.range r).map (readRow X n o))) (n, readRows X n o) := by
    refine downTo o.length ?_ ?_
    · refine Ev.step (fun k => by rw [spec_l13Tableau.l0]) ?_
      exact ev_neg (by omega) (ev_val rfl)
    · intro r hr ih
      have hb := at0_bd hn (r : Int)
      have hor := ho2 _ (rd_mem o r hr)
      have hx := hXr r (by omega)
      refine Ev.step (fun k => by rw [spec_l13Tableau.l0]) ?_
      refine ev_pos (by omega) (ev_bindc (spec_l2At_eq n r) ?_)
      obtain ⟨z, hz⟩ : ∃ z : Nat, at0 n (r : Int) = (z : Int) := ⟨(at0 n (r : Int)).toNat, by omega⟩
      have hlast : Ev (fun k => spec_l13Tableau.l0 k X n o (wrap64 ((r : Int) + 1)) n ((List.range r).map (readRow X n o) ++ [readRow X n o r])) (n, readRows X n o) := by
        have e : (List.range r).map (readRow X n o) ++ [readRow X n o r] = (List.range (r + 1)).map (readRow X n o) := by simp [List.range_succ]
        rw [e, wrap_succ (by omega)]
        exact ih
      have eR : readRow X n o r = (List.range ((rd o (r : Int)).toNat - z)).map (fun j : Nat => rd (rd_L1 X (r : Int)) ((z + j : Nat) : Int)) := by
        unfold readRow; rw [hz, Int.toNat_natCast]; refine List.map_congr_left (fun j _ => ?_); rw [Int.natCast_add]
      have inner : ∀ j, j ≤ (rd o (r : Int)).toNat - z → Ev (fun k => spec_l13Tableau.l1 k X n o (r : Int) ((List.range j).map (fun j : Nat => rd (rd_L1 X (r : Int)) ((z + j : Nat) : Int))) ((z + j : Nat) : Int) n ((List.range r).map (readRow X n o))) (n, readRows X n o) := by
        refine downTo _ ?_ ?_
        · refine Ev.step (fun k => by rw [spec_l13Tableau.l1]) ?_
          refine ev_pos (by omega) (ev_pos (by omega) (ev_neg (by omega) (ev_pos (by simp; omega) ?_)))
          rw [← eR]; exact hlast
        · intro j hj ih2
          refine Ev.step (fun k => by rw [spec_l13Tableau.l1]) ?_
          refine ev_pos (by omega) (ev_pos (by omega) (ev_pos (by omega) (ev_pos (by omega) (ev_pos (by omega) (ev_pos (by omega) (ev_pos (by simp; omega) ?_))))))
          rw [wrap_succ (by omega)]
          have e : (List.range j).map (fun j : Nat => rd (rd_L1 X (r : Int)) ((z + j : Nat) : Int)) ++ [rd (rd_L1 X (r : Int)) ((z + j : Nat) : Int)] = (List.range (j + 1)).map (fun j : Nat => rd (rd_L1 X (r : Int)) ((z + j : Nat) : Int)) := by simp [List.range_succ]
          rw [e]
          exact ih2
      have := inner 0 (by omega)
      rw [hz]
      simpa using this
  have := key 0 (by omega)
  simpa using this
theorem partRows_read (X G : List (List Int)) (n o : List Int) (hl : o.length = G.length) (hlen : ∀ r : Nat, r < G.length → rd o (r : Int) = ((rd_L1 G (r : Int)).length : Int) ∧ 0 < (rd_L1 G (r : Int)).length) (hn : ∀ r : Nat, 0 ≤ at0 n (r : Int))
    (hc : ∀ r q : Nat, r < G.length → at0 n (r : Int) ≤ (q : Int) → q < (rd_L1 G (r : Int)).length → rd (rd_L1 X (r : Int)) (q : Int) = rd (rd_L1 G (r : Int)) (q : Int)) : partRows n G 0 = readRows X n o := by
  have key : ∀ i, i ≤ G.length → partRows n (G.take i) 0 = (List.range i).map (readRow X n o) := by
    intro i
    induction i with
    | zero => intro _; simp [partRows]
    | succ i ih =>
      intro hi
      rw [take_rows G i (by omega), partRows_snoc, ih (by omega), List.range_succ, List.map_append, if_neg (by have := (hlen i (by omega)).2; omega), Nat.zero_add, List.length_take, Nat.min_eq_left (by omega)]
      congr 1
      simp only [List.map_cons, List.map_nil, List.cons.injEq, and_true]
      unfold readRow
      have h1 := hlen i (by omega)
      have h0 := hn i
      obtain ⟨z, hz⟩ : ∃ z : Nat, at0 n (i : Int) = (z : Int) := ⟨(at0 n (i : Int)).toNat, by omega⟩
      rw [h1.1, hz, Int.toNat_natCast, Int.toNat_natCast]
      apply List.ext_getElem
      · simp
      · intro j hj1 hj2
        rw [List.getElem_drop, List.getElem_map, List.getElem_range]
        rw [List.length_drop] at hj1
        have h2 := hc i (z + j) (by omega) (by omega) (by omega)
        rw [Int.natCast_add] at h2
        rw [h2, ← Int.natCast_add, rd_eq _ (z + j) (by omega)]
  have := key G.length (Nat.le_refl _)
  rw [List.take_length] at this
  rw [this]; unfold readRows; rw [hl]
end Go.Proofs.Ytljjjdgnpnnmoaa.Q

set_option linter.unusedVariables false
set_option linter.unusedSimpArgs false
namespace Go.Proofs.Ytljjjdgnpnnmoaa.Q
open Go.RowKit Go.Proofs.Ytljjjdgnpnnmoaa.F Go.Proofs.YtljjjdgnpnnmoaaW.PrintWords Go.Proofs.YtljjjdgnpnnmoaaW.PrintLast Go.Proofs.YtljjjdgnpnnmoaaW.PrintMore
section
variable {w W w1 : World} {L : List Ob}
theorem St.redo {P P' : List Ob} (h : St w W (P ++ L)) (hK : Kept W w1 (fun k => ∃ p ∈ P, p.ok k)) (hB : Below w.heap.size w w1)
    (hP : ∀ o ∈ P', (∀ k, o.ok k → ((∃ p ∈ P, p.ok k) ∨ W.heap.size ≤ k) ∧ w.heap.size ≤ k ∧ k < w1.heap.size) ∧ o.P w1 ∧ Firm o) (ha : P'.Pairwise (fun a b => ∀ k, a.ok k → ¬ b.ok k)) : St w w1 (P' ++ L) := by
  obtain ⟨_, hL, hPL⟩ := List.pairwise_append.1 h.apart
  refine ⟨hB, fun o ho => ?_, List.pairwise_append.2 ⟨ha, hL, fun a haP b hb k hak hbk => ?_⟩⟩
  · rcases List.mem_append.1 ho with ho | ho
    · obtain ⟨h1, h2, h3⟩ := hP o ho
      exact ⟨fun k hk => (h1 k hk).2, h2, h3⟩
    · obtain ⟨h1, h2, h3⟩ := h.own o (List.mem_append_right _ ho)
      exact ⟨fun k hk => ⟨(h1 k hk).1, Nat.lt_of_lt_of_le (h1 k hk).2 hK.1⟩, h3 W w1 h2 (fun k hk hlt => hK.2 k hlt (fun ⟨p, hp, hpk⟩ => hPL p hp o ho k hpk hk)), h3⟩
  · rcases ((hP a haP).1 k hak).1 with ⟨p, hp, hpk⟩ | hnew
    · exact hPL p hp b hb k hpk hbk
    · have := ((h.own b (List.mem_append_right _ hb)).1 k hbk).2
      omega
theorem St.perm_ {L' : List Ob} (h : St w W L) (hp : List.Perm L L') : St w W L' :=
  ⟨h.below, fun o ho => h.own o (hp.mem_iff.2 ho), (hp.pairwise_iff (fun hab k hb ha => hab k ha hb)).1 h.apart⟩
theorem St.less {L' : List Ob} (h : St w W L) (hs : List.Sublist L' L) : St w W L' := ⟨h.below, fun p hp => h.own p (hs.subset hp), h.apart.sublist hs⟩
end
theorem St.redo1 {w W w1 : World} {L : List Ob} {o o' : Ob} (h : St w W L) (n : Nat) (hn : L[n]? = some o) (hK : Kept W w1 o.ok) (hB : Below w.heap.size w w1)
    (hP : (∀ k, o'.ok k → (o.ok k ∨ W.heap.size ≤ k) ∧ w.heap.size ≤ k ∧ k < w1.heap.size) ∧ o'.P w1 ∧ Firm o') : St w w1 (L.set n o') := by
  obtain ⟨hnl, hno⟩ := List.getElem?_eq_some_iff.1 hn
  have e0 : L = L.take n ++ o :: L.drop (n + 1) := by rw [← hno, ← List.drop_eq_getElem_cons hnl, List.take_append_drop]
  have e1 : List.Perm L ([o] ++ (L.take n ++ L.drop (n + 1))) := by
    have := List.perm_middle (a := o) (l₁ := L.take n) (l₂ := L.drop (n + 1))
    rwa [← e0] at this
  have e2 : List.Perm ([o'] ++ (L.take n ++ L.drop (n + 1))) (L.set n o') := by
    rw [List.set_eq_take_append_cons_drop, if_pos hnl]
    exact (List.perm_middle (a := o') (l₁ := L.take n) (l₂ := L.drop (n + 1))).symm
  refine St.perm_ (St.redo (St.perm_ h e1) (w1 := w1) (P' := [o']) ⟨hK.1, fun k hk hp => hK.2 k hk (fun ho => hp ⟨o, by simp, ho⟩)⟩ hB ?_ (List.pairwise_singleton _ _)) e2
  intro q hq
  obtain rfl := List.mem_singleton.1 hq
  exact ⟨fun k hk => ⟨(hP.1 k hk).1.imp (fun h1 => ⟨o, by simp, h1⟩) id, (hP.1 k hk).2⟩, hP.2⟩
section
variable {ops : Array Oper} {rest : List Oper} {oi : Oper} {a : Act} {Q : Exit → Act → World → Prop} {Kc : Act → World → Prop} {w W : World} {L : List Ob} {α : Type} {d : Kd α} {o0 : Ob} {ok : Nat → Prop} {v : Value} {xs : List α} {p : α} {cs : List Value} {e t : Nat}
theorem St.pushed {w1 : World} {v1 : Value} (h : St w W (o0 :: obS d e w ok v xs :: L)) (hS : Kd.S d e w1 w.heap.size (fun k => (ok k ∨ o0.ok k) ∨ W.heap.size ≤ k) v1 (xs ++ [p])) (hB : Below w.heap.size w w1) (hg : W.grownBy w1 v.ownBlock) : ∃ ok1, St w w1 (obS d e w ok1 v1 (xs ++ [p]) :: L) := by
  have hv := (Kd.S_R (show Kd.S d e W w.heap.size ok v xs from h.get 1 rfl)).1
  refine ⟨fun k => ((ok k ∨ o0.ok k) ∨ W.heap.size ≤ k) ∧ w.heap.size ≤ k ∧ k < w1.heap.size, St.redo (P := [o0, obS d e w ok v xs]) (P' := [obS d e w _ v1 (xs ++ [p])]) h ⟨hg.size, fun k hk hn => hg.block k hk (fun e2 => hn ⟨obS d e w ok v xs, by simp, hv k e2.symm⟩)⟩ hB ?_ (List.pairwise_singleton _ _)⟩
  intro q hq
  obtain rfl := List.mem_singleton.1 hq
  refine ⟨fun k hk => ⟨?_, hk.2⟩, Kd.S_mono (Kd.S_bound hS) (fun k hk => ⟨hk.1, hk.2.1, hk.2.2.1⟩), firmS⟩
  rcases hk.1 with (h1 | h1) | h1
  · exact .inl ⟨obS d e w ok v xs, by simp, h1⟩
  · exact .inl ⟨o0, by simp, h1⟩
  · exact .inr h1
theorem St.push (hgd : oi.guard = none) (s x : Operand) (ho : oi.op = .call { callee := .builtin .append, args := #[s, x], argTypes := #[t, t] }) (ht : (Try.prog).underlying t = some (.slice e)) (z : Value) (bytes : Nat) (hinfo : ((Try.prog).info? e).map (fun i => (i.zero, i.size, i.bytes)) = some (some z, d.sz, bytes)) (hz : z.cells.size = d.sz) (hs0 : 0 < d.sz) (hb0 : 0 < bytes)
    (h : St w W (o0 :: obS d e w ok v xs :: L)) (hs : a.eval s = v) (hx : a.eval x = .slice (some ⟨W.heap.size, 0, none⟩) 1 1) (hM : d.M W w.heap.size o0.ok p cs) (hl : (xs.length + 1) * bytes ≤ 140737488355328)
    (hk : ∀ v1 w1 ok1, St w w1 (obS d e w ok1 v1 (xs ++ [p]) :: L) → wpList Try.prog ops Q rest (a.put oi.dst v1) w1) :
    wpList Try.prog ops Q (oi :: rest) a (W.alloc (.cells cs.toArray e)) := by
  have hap : ∀ k, o0.ok k → ¬ ok k := (List.pairwise_cons.1 h.apart).1 (obS d e w ok v xs) (by simp)
  have hS : Kd.S d e W w.heap.size ok v xs := h.get 1 rfl
  have hlt : ∀ k, ok k → k < W.heap.size := fun k hk => ((h.own (obS d e w ok v xs) (by simp)).1 k hk).2
  have hlt0 : ∀ k, o0.ok k → k < W.heap.size := fun k hk => ((h.own o0 (by simp)).1 k hk).2
  refine Kd.S_append d (w0 := w) w.heap.size hgd s x t e z bytes ho ht hinfo hz hs0 hb0 v xs p cs (fun k => (ok k ∨ o0.ok k) ∨ W.heap.size ≤ k) o0.ok hs hx hM (fun k hk => ⟨.inl (.inr hk), fun e2 => hap k hk ((Kd.S_R hS).1 k e2.symm)⟩) (fun k hk => .inr hk) (Kd.S_mono hS (fun k hk => ⟨.inl (.inl hk), fun h2 => hap k h2 hk⟩)) h.below h.below.size hl ?_
  intro v1 w1 hS1 hB hg _
  obtain ⟨ok1, h1⟩ := St.pushed h hS1 hB hg
  exact hk v1 w1 ok1 h1
theorem St.push_step (hw : Region.wanted oi (yielded ops a.tmps) = true) (s x : Operand) (ho : oi.op = .call { callee := .builtin .append, args := #[s, x], argTypes := #[t, t] }) (ht : (Try.prog).underlying t = some (.slice e)) (z : Value) (bytes : Nat) (hinfo : ((Try.prog).info? e).map (fun i => (i.zero, i.size, i.bytes)) = some (some z, d.sz, bytes)) (hz : z.cells.size = d.sz) (hs0 : 0 < d.sz) (hb0 : 0 < bytes)
    (h : St w W (o0 :: obS d e w ok v xs :: L)) (hs : a.eval s = v) (hx : a.eval x = .slice (some ⟨W.heap.size, 0, none⟩) 1 1) (hM : d.M W w.heap.size o0.ok p cs) (hl : (xs.length + 1) * bytes ≤ 140737488355328)
    (hk : ∀ v1 w1 ok1, St w w1 (obS d e w ok1 v1 (xs ++ [p]) :: L) → Kc (a.put oi.dst v1) w1) :
    if Region.wanted oi (yielded ops a.tmps) = true then Oper.wp Try.prog oi a (W.alloc (.cells cs.toArray e)) Kc Q else Kc (a.put oi.dst undef) (W.alloc (.cells cs.toArray e)) := by
  have hap : ∀ k, o0.ok k → ¬ ok k := (List.pairwise_cons.1 h.apart).1 (obS d e w ok v xs) (by simp)
  have hS : Kd.S d e W w.heap.size ok v xs := h.get 1 rfl
  refine Kd.S_append_step d (w0 := w) w.heap.size hw s x t e z bytes ho ht hinfo hz hs0 hb0 v xs p cs (fun k => (ok k ∨ o0.ok k) ∨ W.heap.size ≤ k) o0.ok hs hx hM (fun k hk => ⟨.inl (.inr hk), fun e2 => hap k hk ((Kd.S_R hS).1 k e2.symm)⟩) (fun k hk => .inr hk) (Kd.S_mono hS (fun k hk => ⟨.inl (.inl hk), fun h2 => hap k h2 hk⟩)) h.below h.below.size hl ?_
  intro v1 w1 hS1 hB hg _
  obtain ⟨ok1, h1⟩ := St.pushed h hS1 hB hg
  exact hk v1 w1 ok1 h1
end
section
variable {w W : World} {L : List Ob} {ok : Nat → Prop} {v : Value} {xs : List (List Int)}
theorem St.lendS (h : St w W L) (n : Nat) (hn : L[n]? = some (obS (Kd.slice 3 (Kd.int .i64)) 22 w ok v xs)) (i : Nat) (hi : i < xs.length) {r : List Int} (hr : xs[i] = r) :
    ∃ g c A1 c1, v = .slice (some ⟨g, 0, none⟩) xs.length c ∧ w.heap.size ≤ g ∧ W.cell? ⟨g, i, none⟩ = some (.slice A1 r.length c1) ∧ W.frozen? ⟨g, i, none⟩ = false ∧ r.length ≤ c1 ∧ Reads (Kd.int .i64) W (.slice A1 r.length c1) r ∧
      (0 < r.length → ∃ g1, A1 = some ⟨g1, 0, none⟩ ∧ w.heap.size ≤ g1) ∧
      (∀ j g1, j < r.length → A1 = some ⟨g1, 0, none⟩ → W.cell? ⟨g1, j, none⟩ = some (.int .i64 (rd r (j : Int))) ∧ W.frozen? ⟨g1, j, none⟩ = false ∧ ∀ x : Int, St w (W.setCell ⟨g1, j, none⟩ (.int .i64 x)) (L.set n (obS (Kd.slice 3 (Kd.int .i64)) 22 w ok v (xs.set i (r.set j x))))) ∧
      (∀ m, m ≤ r.length → St w (W.setCell ⟨g, i, none⟩ (.slice A1 m c1)) (L.set n (obS (Kd.slice 3 (Kd.int .i64)) 22 w ok v (xs.set i (r.take m))))) := by
  subst hr
  have hS : Kd.S (Kd.slice 3 (Kd.int .i64)) 22 W w.heap.size ok v xs := h.get n hn
  have hw := (h.own _ (List.mem_of_getElem? hn)).1
  obtain ⟨A, c, rfl⟩ := Kd.R_slice (Kd.S_R hS)
  obtain ⟨g, c', e0, _⟩ := Kd.R_form (Kd.S_R hS) (by omega)
  injection e0 with ea _ _
  subst ea
  have hgok : ok g := (Kd.S_R hS).1 g (by simp [Value.ownBlock])
  have hgb : w.heap.size ≤ g := Kd.R_base (Kd.S_R hS) g (by simp [Value.ownBlock])
  obtain ⟨oki, cs, hcl, hM, hcc, hfr, hoki, hH⟩ := Kd.S_elem hS [] (i : Int) (by omega) (by omega)
  have ex : xs.getD (i : Int).toNat [] = xs[i] := by rw [Int.toNat_natCast, List.getD_eq_getElem?_getD, List.getElem?_eq_getElem hi]; rfl
  rw [ex] at hM
  obtain ⟨u, rfl, hR⟩ := hM
  obtain ⟨A1, c1, hu, hle, hC1⟩ := Kd.R_reads hR
  subst hu
  have ei : (i : Int).toNat * (Kd.slice 3 (Kd.int .i64)).sz + 0 = i := by show (i : Int).toNat * 1 + 0 = i; omega
  have hx1 := hcc 0 _ rfl
  have hf1 := hfr 0
  rw [ei] at hx1 hf1
  refine ⟨g, c, A1, c1, rfl, hgb, hx1, hf1, hle, ⟨A1, c1, rfl, hle, hC1⟩, fun hp => ?_, fun j g1 hj hA => ?_, fun m hm => ?_⟩
  · obtain ⟨g1, c2, e2, gb2, _⟩ := Kd.R_form hR (by omega)
    injection e2 with ea _ _
    exact ⟨g1, ea, gb2⟩
  · subst hA
    obtain ⟨hy, hz⟩ := Kd.R_celln 0 hR (j : Int) (by omega) (by omega)
    rw [Int.toNat_natCast] at hy hz
    refine ⟨hy, hz, fun x => ?_⟩
    have hg1 : oki g1 := hR.1 g1 (by simp [Value.ownBlock])
    have hb1 : w.heap.size ≤ g1 := Kd.R_base hR g1 (by simp [Value.ownBlock])
    have hP := Kd.R_putg hR (j : Int) x
    rw [Int.toNat_natCast] at hP
    have h1 := Kd.H_back (Kd.H_step hH (fun k _ hn' hlt => hP.2.block k hlt (fun e => hn' (by cases e; exact hg1)))) (x' := xs[i].set j x) (okp := oki) ⟨_, rfl, hP.1⟩ (fun _ h => h)
    rw [Int.toNat_natCast] at h1
    refine St.redo1 (o' := obS _ _ w ok _ _) h n hn ⟨hP.2.size, fun k hk hne => hP.2.block k hk (fun e => hne (by cases e; exact (hoki g1 hg1).1))⟩ (below_set h.below hb1) ⟨fun k hk => ⟨.inl hk, (hw k hk).1, Nat.lt_of_lt_of_le (hw k hk).2 hP.2.size⟩, h1, firmS⟩
  · have h2 := Kd.S_seg0 hH (show (0 : Int) ≤ (i : Int) by omega) (show (i : Int) < (xs.length : Int) by omega) (seg := [.slice A1 m c1]) (j := 0) (show 1 ≤ 1 from by decide) (x' := xs[i].take m) (okp := oki) ⟨.slice A1 m c1, rfl, Kd.R_take hR hm⟩ (fun _ h => h)
    rw [ei, Int.toNat_natCast] at h2
    refine St.redo1 (o' := obS _ _ w ok _ _) h n hn ⟨h2.2.size, fun k hk hne => h2.2.block k hk (fun e => hne (by cases e; exact hgok))⟩ (below_set h.below hgb) ⟨fun k hk => ⟨.inl hk, (hw k hk).1, Nat.lt_of_lt_of_le (hw k hk).2 h2.2.size⟩, h2.1, firmS⟩
end
section
variable {ops : Array Oper} {rest : List Oper} {oi : Oper} {a : Act} {Q : Exit → Act → World → Prop} {w W : World} {L : List Ob} {ok : Nat → Prop} {v : Value} {xs : List (List Int)}
end
section
variable {ops : Array Oper} {rest : List Oper} {oi : Oper} {a : Act} {Q : Exit → Act → World → Prop} {w W : World} {L : List Ob}
theorem St.make0 {N : Tmp} (hgd : oi.guard = none) (hd : oi.dst = some N) (x y : Operand) (ho : oi.op = .makeSlice 22 x y) (z : Nat) (hx : a.eval x = .int .i64 (z : Int)) (hy : a.eval y = .int .i64 (z : Int)) (hl : z * 8 ≤ 281474976710656) (h : St w W L)
    (hk : ∀ v1 w1 ok1, St w w1 (obR (Kd.int .i64) 3 w ok1 v1 (List.replicate z 0) :: L) → wpList Try.prog ops Q rest (a.put oi.dst v1) w1) : wpList Try.prog ops Q (oi :: rest) a W := by
  refine Kd.R_make (Kd.int .i64) (w0 := W) W.heap.size 3 hgd hd 22 x y ho (z : Int) hx hy Try.underlying22 (.int .i64 0) 8 info3 rfl (by decide) (by omega) 0 (ok := fun _ => True) (okp := fun _ => True) rfl (fun _ hk => hk) trivial (by omega) (by rw [Int.toNat_natCast]; exact hl) (Below.refl _ _) (Nat.le_refl _) ?_
  intro v1 w1 hR hB hg _
  rw [Int.toNat_natCast] at hR
  obtain ⟨ok1, h1⟩ := h.addR hB hR
  exact hk v1 w1 ok1 h1
theorem St.lit0 {α : Type} (d : Kd α) (e : Nat) {N : Tmp} (hgd : oi.guard = none) (hd : oi.dst = some N) (hrun : (execOp a.eval oi).run Try.prog W = .ok (.value (.slice (some ⟨W.heap.size, 0, none⟩) 0 0)) (W.alloc (.cells #[] e))) (h : St w W L)
    (hk : ∀ v1 w1 ok1, St w w1 (obS d e w ok1 v1 [] :: L) → wpList Try.prog ops Q rest (a.put oi.dst v1) w1) : wpList Try.prog ops Q (oi :: rest) a W := by
  refine Kd.S_lit d (w0 := W) W.heap.size e hgd hd (xs := []) (inner := []) (ok := fun _ => True) (okp := fun _ => False) hrun (Reps.none _ _) (fun _ h => h.elim) trivial (Below.refl _ _) (Nat.le_refl _) (by simp) ?_
  intro v1 w1 hS hB _ _
  obtain ⟨ok1, h1⟩ := h.addS hB hS
  exact hk v1 w1 ok1 h1
end
section
variable {α β : Type} {d : Kd α} {d' : Kd β} {t t' : Nat} {w W W' : World} {v v' : Value} {xs : List α} {ys : List β} {L : List Ob}
end
theorem lit_event {ops : Array Oper} {rest : List Oper} {oi : Oper} {a : Act} {Q : Exit → Act → World → Prop} {W : World} {N : Tmp} (hgd : oi.guard = none) (_hd : oi.dst = some N) {cs : Array Value} {t n : Nat}
    (hrun : (execOp a.eval oi).run Try.prog W = .ok (.value (.slice (some ⟨W.heap.size, 0, none⟩) n n)) (W.alloc (.cells cs t (0, 0))))
    (h : ∀ b, b = W.heap.size → ∀ w1, w1.heap[b]? = some (.cells cs t (0, 0)) → Below W.heap.size W w1 → wpList Try.prog ops Q rest (a.put oi.dst (.slice (some ⟨b, 0, none⟩) n n)) w1) : wpList Try.prog ops Q (oi :: rest) a W :=
  Kd.event_run hgd hrun (h _ rfl _ (blk_new W _) (below_alloc (Below.refl _ _) _))
theorem cut_ints (A : Option Addr) (n c z : Nat) (h : z ≤ n) (W : World) : (Instr.slice 22 (.slice A n c) (some (.int .i64 (z : Int))) none none).run Try.prog W = .ok (.slice (if c = z then A else A.map (·.add z)) (n - z) (c - z)) W := by
  obtain ⟨i, hi, hz⟩ := Option.map_eq_some_iff.1 info3
  simp only [Prod.mk.injEq] at hz
  have := cut_from (P := Try.prog) 22 3 .i64 Try.underlying22 hi 1 hz.2.1 A n c (z : Int) (by omega) (by omega) W
  simpa using this
end Go.Proofs.Ytljjjdgnpnnmoaa.Q

set_option linter.unusedVariables false
set_option linter.unusedSimpArgs false
namespace Go.Proofs.Ytljjjdgnpnnmoaa.Q
open Go.RowKit Go.Proofs.Ytljjjdgnpnnmoaa.F Go.Proofs.YtljjjdgnpnnmoaaW.PrintWords Go.Proofs.YtljjjdgnpnnmoaaW.PrintLast Go.Proofs.YtljjjdgnpnnmoaaW.PrintMore
section
variable {w W : World} {L : List Ob} {v : Value} {xs : List Int}
theorem at_st (h : St w W L) (hr : Reads (Kd.int .i64) W v xs) (i z : Int) (hz : at0 xs i = z) (hl : xs.length ≤ 1048576) :
    Calls Try.prog 76 #[v, .int .i64 i] W fun e W' => e = .returned (.int .i64 z) ∧ St w W' L := by
  obtain ⟨A, c, rfl, hc, hC⟩ := hr
  refine (impl_at.calls A c xs i z W hC hc (hz ▸ impl_at_eq xs i hl)).mono ?_
  rintro e W' ⟨rfl, hd⟩
  exact ⟨rfl, h.drawn hd⟩
theorem concat_st (h : St w W L) {l : List (List Int)} {r : List Int} (hr : Reads (Kd.slice 3 (Kd.int .i64)) W v l) (hE : Ev (fun k => slices_Concat_int_int.f k l) r) :
    Calls Try.prog 70 #[v] W fun e W' => ∃ v1 ok1, e = .returned v1 ∧ St w W' (obR (Kd.int .i64) 3 w ok1 v1 r :: L) := by
  obtain ⟨A, c, rfl, hc, hC⟩ := hr
  obtain ⟨K, hK⟩ := hE
  refine (slices_Concat_int_int.calls K A c l r W hC hc (hK K (Nat.le_refl _))).mono ?_
  rintro e W' ⟨v1, rfl, hR, hB⟩
  obtain ⟨ok1, h1⟩ := h.addR hB hR
  exact ⟨v1, ok1, rfl, h1⟩
theorem clone_st (h : St w W L) (hr : Reads (Kd.int .i64) W v xs) (hl : xs.length < 17592186044416) :
    Calls Try.prog 82 #[v] W fun e W' => ∃ v1 ok1, e = .returned v1 ∧ St w W' (obR (Kd.int .i64) 3 w ok1 v1 xs :: L) := by
  obtain ⟨A, c, rfl, hc, hC⟩ := hr
  refine (slices_Clone_int_int.calls A c xs xs W hC hc (by unfold slices_Clone_int_int.f; rw [if_pos hl])).mono ?_
  rintro e W' ⟨v1, rfl, hR, hB⟩
  obtain ⟨ok1, h1⟩ := h.addR hB hR
  exact ⟨v1, ok1, rfl, h1⟩
end
end Go.Proofs.Ytljjjdgnpnnmoaa.Q

set_option linter.unusedVariables false
set_option linter.unusedSimpArgs false
namespace Go.Proofs.Ytljjjdgnpnnmoaa.Q
open Go.RowKit Go.Proofs.Ytljjjdgnpnnmoaa.F Go.Proofs.YtljjjdgnpnnmoaaW.PrintWords Go.Proofs.YtljjjdgnpnnmoaaW.PrintLast Go.Proofs.YtljjjdgnpnnmoaaW.PrintMore
set_option maxHeartbeats 8000000 in
set_option maxRecDepth 100000 in
theorem grid_calls (A0 : Option Addr) (c0 : Nat) (n : List Int) (A1 : Option Addr) (c1 : Nat) (m : List (List Int)) (w : World) (hr0 : Kd.C (Kd.int .i64) w A0 n.length n) (hc0 : n.length ≤ c0) (hr1 : Kd.C (Kd.slice 3 (Kd.int .i64)) w A1 m.length m) (hc1 : m.length ≤ c1)
    (hp : isPartition n = true) (hm : m.length ≤ 9) (hq : ∀ q ∈ m, q.length ≤ 9) :
    Calls Try.prog 49 #[.agg #[.slice A0 n.length c0, .slice A1 m.length c1]] w fun e w' => ∃ v, e = .returned v ∧ Kd.S (Kd.slice 3 (Kd.int .i64)) 22 w' w.heap.size (fun _ => True) v (gridOf n m) ∧ Below w.heap.size w w' := by
  have C0 := Aside0.mk hr0
  have C1 := Aside0.mk hr1
  have HP := Aside0.mk hp
  have HQ := Aside0.mk hq
  have H0 := Aside0.mk (St.start w)
  clear hr0 hr1 hp hq
  go_enter Try.func49, Try.ntmps49
  go_wp2_with (first
    | ((with_reducible refine gate_dst (N := 1) rfl ?_); refine zX (N := 1) (cs := #[.slice A0 n.length c0, .slice A1 m.length c1]) (t := 28) ?_; intro b1 hb1 wb1 hxb1 hlb1; have H1 := Aside0.mk (St.addB H0.out hxb1 hb1 hlb1); clear hxb1 hlb1 hb1)
    | ((with_reducible refine gate_dst (N := 6) rfl ?_); refine St.lit0 (Kd.slice 3 (Kd.int .i64)) 22 (N := 6) rfl rfl ?hr H1.out ?_; (case hr => first | (go_simp; done) | (go_simp; rfl)); intro v3 w3 ok3 h_; have H3 := Aside0.mk h_; clear h_; have z1 : w3.cell? ⟨b1, 1, none⟩ = some (.slice A1 m.length c1) := St.cellB H3.out 1 rfl 1 rfl))
  go_loopg [3, 10] m.length (fun kq v3 v10 wr => ∃ (i : Nat) (ok : Nat → Prop), i ≤ m.length ∧ m.length - i ≤ kq ∧ v10 = .int .i64 i ∧ Aside0 (St w wr [obS (Kd.slice 3 (Kd.int .i64)) 22 w ok v3 ((List.range i).map (gridRow n m)), obB b1 #[.slice A0 n.length c0, .slice A1 m.length c1] 28]))
  case atStart => exact ⟨0, ok3, Nat.zero_le _, by omega, rfl, H3⟩
  case round =>
    clear z1 H0 H1 H3
    obtain ⟨i, ok, hi, hg, rfl, HS⟩ := hrel
    by_cases hlt : i < m.length
    · have hltz : (i : Int) < (m.length : Int) := by omega
      obtain ⟨ad, Ar, cr, e, hxw, hl, hiw⟩ := at_L1 C1.out (i : Int) (by omega) hltz
      subst e
      have hx := pw_cell_below HS.out.below hxw
      rw [Int.toNat_natCast] at hx
      have hb := at0_bd HP.out (i : Int)
      obtain ⟨z, hz⟩ : ∃ z : Nat, at0 n (i : Int) = (z : Int) := ⟨(at0 n (i : Int)).toNat, by omega⟩
      have hrow : gridRow n m i = List.replicate z 0 ++ rd_L1 m (i : Int) := by unfold gridRow; rw [hz, Int.toNat_natCast]
      have h9 := HQ.out _ (rows_mem m i hlt)
      have hnl := (isPartition_bd HP.out).2.1
      obtain ⟨row, hrw⟩ : ∃ q, q = rd_L1 m (i : Int) := ⟨_, rfl⟩
      obtain ⟨zs, hzs⟩ : ∃ q : List Int, q = List.replicate z 0 := ⟨_, rfl⟩
      have hzl : zs.length = z := by rw [hzs, List.length_replicate]
      have hx' : wr.cell? (ad.add i) = some (.slice Ar row.length cr) := by rw [hrw]; exact hx
      rw [← hrw] at hrow h9 hl
      rw [← hzs] at hrow
      have CR := Aside0.mk (show Kd.C (Kd.int .i64) w Ar row.length row by rw [hrw]; exact hiw)
      have HROW := Aside0.mk hrow
      have HZ := Aside0.mk hz
      have HZS := Aside0.mk hzs
      have HZL := Aside0.mk hzl
      obtain ⟨cat, hcat⟩ : ∃ q, q = [zs, row].flatten := ⟨_, rfl⟩
      have hctl : cat.length ≤ 18 := by rw [hcat]; simp; omega
      have HCC := Aside0.mk (show Ev (fun k => slices_Concat_int_int.f k [zs, row]) cat by rw [hcat]; exact slices_Concat_ev [zs, row] (by simp) (by simp [bulk]; omega))
      have HCAT := Aside0.mk hcat
      have HNL := Aside0.mk hnl
      have hz9 : z ≤ 9 := by omega
      clear hx hrow hz hrw hzs hzl hxw hiw hb hnl hcat
      have z0 : wr.cell? ⟨b1, 0, none⟩ = some (.slice A0 n.length c0) := St.cellB HS.out 1 rfl 0 rfl
      go_wp2_with (first
        | (go_at_call 76; (with_reducible refine (at_st HS.out (HS.out.came C0.out hc0) (i : Int) _ HZ.out (by have := HNL.out; omega)).mono ?_); rintro e w5 ⟨rfl, h_⟩; have H5 := Aside0.mk h_; clear h_ z0 hx')
        | ((with_reducible refine gate_dst (N := 20) rfl ?_); refine St.make0 (N := 20) rfl rfl (.tmp 19) (.tmp 19) rfl z rfl rfl (by omega) H5.out ?_; intro v6 w6 ok6 h_; rw [← HZS.out] at h_; have H6 := Aside0.mk h_; clear h_; obtain ⟨A6, c6, rfl, _, _⟩ := H6.out.readR 0 rfl)
        | ((with_reducible refine gate_dst (N := 22) rfl ?_); refine lit_event (N := 22) rfl rfl (cs := #[.slice A6 zs.length c6, .slice Ar row.length cr]) (t := 22) (n := 2) ?hr ?_; (case hr => first | (go_simp; done) | (go_simp; rfl)); intro b7 hb7 w7 hx7 hl7; have H7 := Aside0.mk (St.addB H6.out hx7 hb7 hl7); clear hx7 hl7 hb7)
        | (go_at_call 70; (with_reducible refine (concat_st H7.out (rows2_C (H7.out.readR 1 rfl) (H7.out.came CR.out hl) (St.heapB H7.out 0 rfl)) HCC.out).mono ?_); rintro e w8 ⟨v8, ok8, rfl, h_⟩; have H8 := Aside0.mk (St.less h_ (.cons_cons _ (.cons _ (.cons _ (.cons_cons _ (.cons_cons _ .slnil)))))); clear h_; obtain ⟨A8, c8, rfl, _, _⟩ := H8.out.readR 0 rfl)
        | (at_builtin; refine St.push (d := Kd.slice 3 (Kd.int .i64)) (p := cat) (cs := [.slice A8 cat.length c8]) rfl (.tmp 15) (.tmp 24) rfl Try.underlying23 (.slice none 0 0) 24 info22 rfl (by decide) (by omega) H8.out rfl ?sX ⟨_, rfl, H8.out.get 0 rfl⟩ (by simp; omega) ?_; (case sX => rfl); intro v9 w9 ok9 h_; have H9 := Aside0.mk h_; clear h_))
      go_roundg (m.length - (i + 1))
      case measure => omega
      case rel =>
        refine ⟨i + 1, ok9, by omega, by omega, by go_num, ⟨?_⟩⟩
        have e1 : cat = gridRow n m i := by rw [HCAT.out, HROW.out]; simp
        have := H9.out
        rw [e1] at this
        rw [List.range_succ, List.map_append]
        exact this
    · have : i = m.length := by omega
      subst this
      have hltz : ¬ (m.length : Int) < (m.length : Int) := by omega
      go_wp2
      go_ret
      exact ⟨_, rfl, Kd.S_mono (HS.out.get 0 rfl) (fun _ _ => trivial), HS.out.below⟩
def ofGrid6.T : Bool × List (List Nat × List Nat) := (true, [([], []), ([0], [0]), ([], []), ([], []), ([], []), ([3, 4], [3, 4]), ([2, 5], [2, 5]), ([6, 5], [6]), ([7], [7]), ([1, 8, 7], [1, 8]), ([0, 1, 2, 3, 4, 5, 6, 7, 8, 9], []), ([10, 9, 9, 0, 1, 2, 3, 4, 5, 6, 7, 8, 9], [9, 10])])
def ofGrid6.B : List Nat := [0, 1, 0, 0, 0, 24, 60, 124, 252, 511, 1023, 2047]
theorem ofGrid6.tab : rtab .any (opsOf Try.f51 6) = ofGrid6.T := by kernel_rfl
theorem ofGrid6.bits : waitsOk ofGrid6.T.2 ofGrid6.B = true := by kernel_rfl
set_option maxHeartbeats 8000000 in
set_option maxRecDepth 100000 in
theorem ofGrid_calls (A0 : Option Addr) (c0 : Nat) (n : List Int) (A1 : Option Addr) (c1 : Nat) (G : List (List Int)) (w : World) (hr0 : Kd.C (Kd.int .i64) w A0 n.length n) (hc0 : n.length ≤ c0) (hr1 : Kd.C (Kd.slice 3 (Kd.int .i64)) w A1 G.length G) (hc1 : G.length ≤ c1)
    (hn : n.length ≤ 1000) (hG : G.length ≤ 10) (hq : ∀ q ∈ G, q.length ≤ 10) (hat : ∀ i : Nat, i < G.length → 0 < (rd_L1 G (i : Int)).length → 0 ≤ at0 n (i : Int) ∧ at0 n (i : Int) ≤ ((rd_L1 G (i : Int)).length : Int)) :
    Calls Try.prog 51 #[.slice A0 n.length c0, .slice A1 G.length c1] w fun e w' => ∃ v, e = .returned (.agg #[.slice A0 n.length c0, v]) ∧ Kd.S (Kd.slice 3 (Kd.int .i64)) 22 w' w.heap.size (fun _ => True) v (partRows n G 0) ∧ Below w.heap.size w w' := by
  have C0 := Aside0.mk hr0
  have C1 := Aside0.mk hr1
  have HQ := Aside0.mk hq
  have HAT := Aside0.mk hat
  have H0 := Aside0.mk (St.start w)
  clear hr0 hr1 hq hat
  go_enter Try.func51, Try.ntmps51
  go_wp2_with (first
    | ((with_reducible refine gate_dst (N := 4) rfl ?_); refine zX (N := 4) (cs := #[.slice none 0 0, .slice none 0 0]) (t := 28) ?_; intro b4 hb4 wb4 hxb4 hlb4; have H1 := Aside0.mk (St.addB H0.out hxb4 hb4 hlb4); clear hxb4 hlb4 hb4)
    | ((with_reducible refine gate_dst (N := 5) rfl ?_); refine zX (N := 5) (cs := #[.slice none 0 0, .slice none 0 0]) (t := 28) ?_; intro b5 hb5 wb5 hxb5 hlb5; have H2 := Aside0.mk (St.addB H1.out hxb5 hb5 hlb5); clear hxb5 hlb5 hb5; have z0 : wb5.cell? ⟨b5, 0, none⟩ = some (.slice none 0 0) := St.cellB H2.out 0 rfl 0 rfl; have z1 : wb5.cell? ⟨b5, 1, none⟩ = some (.slice none 0 0) := St.cellB H2.out 0 rfl 1 rfl; have f0 := blk_frozen (St.heapB H2.out 0 rfl) 0; have f1 := blk_frozen (St.heapB H2.out 0 rfl) 1))
  have H3 := Aside0.mk (St.putB (St.putB H2.out 0 rfl 0 (.slice A0 n.length c0) rfl) 0 rfl 1 (.slice none 0 0) rfl)
  obtain ⟨ok4, h4⟩ := St.addS H3.out (Below.refl _ _) (Kd.S_nil (Kd.slice 3 (Kd.int .i64)) 22 _ _ (fun _ => True))
  have H4 := Aside0.mk h4
  clear h4 z0 z1 f0 f1 H0 H1 H2 H3
  go_loopg [12] G.length (fun kq v12 wr => ∃ (i : Nat) (ok : Nat → Prop) (v : Value), i ≤ G.length ∧ G.length - i ≤ kq ∧ v12 = .int .i64 i ∧ Aside0 (St w wr [obS (Kd.slice 3 (Kd.int .i64)) 22 w ok v (partRows n (G.take i) 0), obB b5 #[.slice A0 n.length c0, v] 28, obB b4 #[.slice none 0 0, .slice none 0 0] 28]))
  case atStart => exact ⟨0, ok4, _, Nat.zero_le _, by omega, rfl, ⟨H4.out⟩⟩
  case round =>
    clear H4
    obtain ⟨i, ok, v, hi, hg, rfl, HS⟩ := hrel
    by_cases hlt : i < G.length
    · have hltz : (i : Int) < (G.length : Int) := by omega
      obtain ⟨ad, Ar, cr, e, hxw, hl, hiw⟩ := at_L1 C1.out (i : Int) (by omega) hltz
      subst e
      have hx := pw_cell_below HS.out.below hxw
      rw [Int.toNat_natCast] at hx
      have h9 := HQ.out _ (rows_mem G i hlt)
      have hsn : partRows n (G.take (i + 1)) 0 = partRows n (G.take i) 0 ++ (if (rd_L1 G (i : Int)).length = 0 then [] else [(rd_L1 G (i : Int)).drop (at0 n (i : Int)).toNat]) := by
        rw [take_rows G i hlt, partRows_snoc, Nat.zero_add, List.length_take, Nat.min_eq_left (by omega)]
      have hbd := (partRows_bd n 10 (G.take i) 0 (fun r hr => HQ.out r (List.mem_of_mem_take hr))).1
      rw [List.length_take, Nat.min_eq_left (by omega)] at hbd
      have hat := HAT.out i hlt
      obtain ⟨row, hrw⟩ : ∃ q, q = rd_L1 G (i : Int) := ⟨_, rfl⟩
      have hx' : wr.cell? (ad.add i) = some (.slice Ar row.length cr) := by rw [hrw]; exact hx
      rw [← hrw] at h9 hl hsn hat
      have CR := Aside0.mk (show Kd.C (Kd.int .i64) w Ar row.length row by rw [hrw]; exact hiw)
      clear hx hrw hxw hiw
      by_cases h0 : 0 < row.length
      · obtain ⟨ha0, ha1⟩ := hat h0
        obtain ⟨z, hz⟩ : ∃ z : Nat, at0 n (i : Int) = (z : Int) := ⟨(at0 n (i : Int)).toNat, by omega⟩
        rw [if_neg (by omega), hz, Int.toNat_natCast] at hsn
        have hzl : z ≤ row.length := by omega
        have HZ := Aside0.mk hz
        have HSN := Aside0.mk hsn
        have hzz : (z : Int) ≤ (row.length : Int) := by omega
        obtain ⟨cut, hcut⟩ : ∃ q, q = row.drop z := ⟨_, rfl⟩
        have hcl : cut.length = row.length - z := by rw [hcut, List.length_drop]
        have HCUT := Aside0.mk hcut
        obtain ⟨Ac, hAc⟩ : ∃ q, q = (if cr = z then Ar else Ar.map (·.add z)) := ⟨_, rfl⟩
        have CC := Aside0.mk (show Kd.C (Kd.int .i64) w Ac cut.length cut by
          have := Kd.C_drop CR.out hzl hl
          rw [show z * (Kd.int .i64).sz = z from Nat.mul_one z] at this
          rw [hcut, hAc]
          exact this)
        have hrun : ∀ W : World, (Instr.slice 22 (.slice Ar row.length cr) (some (.int .i64 (z : Int))) none none).run Try.prog W = .ok (.slice Ac cut.length (cr - z)) W := by
          intro W
          rw [hAc, hcl]
          exact cut_ints Ar row.length cr z hzl W
        have hccap : cut.length ≤ cr - z := by omega
        have hcl10 : cut.length ≤ 10 := by omega
        clear hsn hz hcut hAc hcl hat
        obtain ⟨xs, hxs⟩ : ∃ q, q = partRows n (G.take i) 0 := ⟨_, rfl⟩
        have HS' := Aside0.mk (show St w wr [obS (Kd.slice 3 (Kd.int .i64)) 22 w ok v xs, obB b5 #[.slice A0 n.length c0, v] 28, obB b4 #[.slice none 0 0, .slice none 0 0] 28] by rw [hxs]; exact HS.out)
        rw [← hxs] at hbd
        have HXS := Aside0.mk hxs
        clear hxs HS
        go_wp2
        have HD := Aside0.mk (HS'.out.quiet (below_drew (Below.refl _ _)))
        refine start_ (n := 12) (S := fun w' => w'.cell? ⟨b5, 1, none⟩ = some v) (ds := [11]) #[false, false, false, false, false, false, false, false, false, false, false, false] (by kernel_rfl) rfl rfl (St.cellB HD.out 1 rfl 1 rfl) (fun hHeld => ?_)
        refine with_tabW ofGrid6.tab ofGrid6.bits (fun HT_ HW_ => ?_)
        refine pure_ (i := 0) (N := some 20) (v := ?_) (a' := ?_) #[true, false, false, false, false, false, false, false, false, false, false, false] rfl rfl (any_of HT_.out (by kernel_rfl)) (fun _ _ _ h => h) (Or.inl ⟨by rfl, ?_⟩) ?_ ?_
        rotate_left
        · intro w'
          go_simp
          with_reducible rfl
        rotate_left
        · simp only [Act.put, List.setIfInBounds_toArray, List.set_cons_zero, List.set_cons_succ, i64_w, i32_w]
          rfl
        refine take_ (i := 1) (N := some 21) (v := ?_) (a' := ?_) #[true, true, false, false, false, false, false, false, false, false, false, false] rfl rfl (take_ofW HT_.out HW_.out (by kernel_rfl)) (fun _ _ _ h => h) (Or.inl ⟨by rfl, ?_⟩) hHeld ?_ ?_
        rotate_left
        · intro w' s0
          go_simp
          with_reducible rfl
        rotate_left
        · simp only [Act.put, List.setIfInBounds_toArray, List.set_cons_zero, List.set_cons_succ, i64_w, i32_w]
          rfl
        refine pure_ (i := 2) (N := some 22) (v := ?_) (a' := ?_) #[true, true, true, false, false, false, false, false, false, false, false, false] rfl rfl (any_of HT_.out (by kernel_rfl)) (fun _ _ _ h => h) (Or.inl ⟨by rfl, ?_⟩) ?_ ?_
        rotate_left
        · intro w'
          go_simp
          with_reducible rfl
        rotate_left
        · simp only [Act.put, List.setIfInBounds_toArray, List.set_cons_zero, List.set_cons_succ, i64_w, i32_w]
          rfl
        refine pure_ (i := 3) (N := some 23) (v := ?_) (a' := ?_) #[true, true, true, true, false, false, false, false, false, false, false, false] rfl rfl (any_of HT_.out (by kernel_rfl)) (fun _ _ _ h => h) (Or.inl ⟨by rfl, ?_⟩) ?_ ?_
        rotate_left
        · intro w'
          go_simp
          with_reducible rfl
        rotate_left
        · simp only [Act.put, List.setIfInBounds_toArray, List.set_cons_zero, List.set_cons_succ, i64_w, i32_w]
          rfl
        refine pure_ (i := 4) (N := some 24) (v := ?_) (a' := ?_) #[true, true, true, true, true, false, false, false, false, false, false, false] rfl rfl (any_of HT_.out (by kernel_rfl)) (fun _ _ _ h => h) (Or.inl ⟨by rfl, ?_⟩) ?_ ?_
        rotate_left
        · intro w'
          go_simp
          with_reducible rfl
        rotate_left
        · simp only [Act.put, List.setIfInBounds_toArray, List.set_cons_zero, List.set_cons_succ, i64_w, i32_w]
          rfl
        refine one_ (i := 5) (N := some 25) #[true, true, true, true, true, true, false, false, false, false, false, false] rfl rfl (one_of HT_.out (by kernel_rfl)) (by decide) (fun K hK => ?_)
        refine zC Try.func76 #[.slice A0 n.length c0, .int .i64 (i : Int)] ?_
        (with_reducible refine (at_st HD.out (HD.out.came C0.out hc0) (i : Int) _ HZ.out (by omega)).mono ?_)
        rintro e w5 ⟨rfl, h_⟩
        refine ⟨_, rfl, ?_⟩
        have H5 := Aside0.mk h_
        clear h_
        refine hK.out _ _ (St.cellB H5.out 1 rfl 1 rfl) (fun hHeld => ?_)
        clear hK K
        refine norm_ (a' := ?_) ?_ ?_
        rotate_left
        · show Act.put _ (some 25) _ = _
          simp only [Act.put, List.setIfInBounds_toArray, List.set_cons_zero, List.set_cons_succ, i64_w, i32_w]
          rfl
        refine pure_ (i := 6) (N := some 26) (v := ?_) (a' := ?_) #[true, true, true, true, true, true, true, false, false, false, false, false] rfl rfl (any_of HT_.out (by kernel_rfl)) (fun _ _ _ h => h) (Or.inl ⟨by rfl, ?_⟩) ?_ ?_
        rotate_left
        · intro w'
          go_simp
          with_reducible rfl
        rotate_left
        · simp only [Act.put, List.setIfInBounds_toArray, List.set_cons_zero, List.set_cons_succ, i64_w, i32_w]
          rfl
        refine one_ (i := 7) (N := some 27) #[true, true, true, true, true, true, true, true, false, false, false, false] rfl rfl (one_of HT_.out (by kernel_rfl)) (by decide) (fun K hK => ?_)
        refine zC Try.func82 #[.slice Ac cut.length (cr - z)] ?_
        (with_reducible refine (clone_st H5.out (H5.out.came CC.out hccap) (by omega)).mono ?_)
        rintro e w6 ⟨v6, ok6, rfl, h_⟩
        refine ⟨_, rfl, ?_⟩
        have H6 := Aside0.mk h_
        clear h_
        obtain ⟨A6, c6, rfl, _, _⟩ := H6.out.readR 0 rfl
        have z7 : w6.cell? ⟨b5, 1, none⟩ = some v := St.cellB H6.out 2 rfl 1 rfl
        have hb6 := blk_lt (St.heapB H6.out 2 rfl)
        refine hK.out _ _ (St.cellB H6.out 2 rfl 1 rfl) (fun hHeld => ?_)
        clear hK K
        refine norm_ (a' := ?_) ?_ ?_
        rotate_left
        · show Act.put _ (some 27) _ = _
          simp only [Act.put, List.setIfInBounds_toArray, List.set_cons_zero, List.set_cons_succ, i64_w, i32_w]
          rfl
        refine one_ (i := 8) (N := some 28) #[true, true, true, true, true, true, true, true, true, false, false, false] rfl rfl (one_of HT_.out (by kernel_rfl)) (by decide) (fun K hK => ?_)
        refine value_ (w1 := ?_) (v := ?_) (by rfl) rfl ?_ ?_
        rotate_left 2
        · go_simp
          constructor
          · rfl
          · rfl
        refine hK.out _ _ ((blk_cell (blk_alloc (St.heapB H6.out 2 rfl) _) 1).trans rfl) (fun hHeld => ?_)
        clear hK K
        refine norm_ (a' := ?_) ?_ ?_
        rotate_left
        · show Act.put _ (some 28) _ = _
          simp only [Act.put, List.setIfInBounds_toArray, List.set_cons_zero, List.set_cons_succ, i64_w, i32_w]
          rfl
        refine one_ (i := 9) (N := some 29) #[true, true, true, true, true, true, true, true, true, true, false, false] rfl rfl (one_of HT_.out (by kernel_rfl)) (by decide) (fun K hK => ?_)
        refine St.push_step (d := Kd.slice 3 (Kd.int .i64)) (W := w6) (p := cut) (cs := [.slice A6 cut.length c6]) (by rfl) (.tmp 21) (.tmp 28) rfl Try.underlying23 (.slice none 0 0) 24 info22 rfl (by decide) (by omega) H6.out rfl rfl ⟨_, rfl, H6.out.get 0 rfl⟩ (by omega) ?_
        intro v7 w7 ok7 h_
        obtain ⟨ys, hys⟩ : ∃ q, q = xs ++ [cut] := ⟨_, rfl⟩
        rw [← hys] at h_
        have HYS := Aside0.mk hys
        clear hys
        obtain ⟨A7, c7, e7, _, _⟩ := h_.readS 0 rfl
        subst e7
        have H7 := Aside0.mk h_
        clear h_
        have z8 : w7.cell? ⟨b5, 1, none⟩ = some v := St.cellB H7.out 1 rfl 1 rfl
        have f8 := blk_frozen (St.heapB H7.out 1 rfl) 1
        refine hK.out _ _ (St.cellB H7.out 1 rfl 1 rfl) (fun hHeld => ?_)
        clear hK K
        refine norm_ (a' := ?_) ?_ ?_
        rotate_left
        · show Act.put _ (some 29) _ = _
          simp only [Act.put, List.setIfInBounds_toArray, List.set_cons_zero, List.set_cons_succ, i64_w, i32_w]
          rfl
        refine pure_ (i := 10) (N := some 30) (v := ?_) (a' := ?_) #[true, true, true, true, true, true, true, true, true, true, true, false] rfl rfl (any_of HT_.out (by kernel_rfl)) (fun _ _ _ h => h) (Or.inl ⟨by rfl, ?_⟩) ?_ ?_
        rotate_left
        · intro w'
          go_simp
          with_reducible rfl
        rotate_left
        · simp only [Act.put, List.setIfInBounds_toArray, List.set_cons_zero, List.set_cons_succ, i64_w, i32_w]
          rfl
        refine last_ (i := 11) (N := none) #[true, true, true, true, true, true, true, true, true, true, true, true] rfl rfl (one_of HT_.out (by kernel_rfl)) (by decide) (fun K hK => ?_)
        refine skip_ (w1 := ?_) (by rfl) rfl ?_ ?_
        rotate_left
        · go_simp
          rfl
        refine hK.out _ _ ?_
        clear hK K
        refine done_ (done_of HT_.out (by kernel_rfl)) ?_
        go_wp2
        go_roundg (G.length - (i + 1))
        case measure => omega
        case rel =>
          refine ⟨i + 1, ok7, .slice A7 ys.length c7, by omega, by omega, by go_num, ⟨?_⟩⟩
          rw [HSN.out, ← HXS.out, ← HCUT.out, ← HYS.out]
          exact St.putB H7.out 1 rfl 1 (.slice A7 ys.length c7) rfl
      · have hr0 : row.length = 0 := by omega
        rw [if_pos hr0, List.append_nil] at hsn
        have h0z : ¬ (0 : Int) < (row.length : Int) := by omega
        have HSN := Aside0.mk hsn
        clear hsn hat hr0
        go_wp2
        go_roundg (G.length - (i + 1))
        case measure => omega
        case rel => exact ⟨i + 1, ok, v, by omega, by omega, by go_num, ⟨by rw [HSN.out]; exact HS.out⟩⟩
    · have : i = G.length := by omega
      subst this
      have hltz : ¬ (G.length : Int) < (G.length : Int) := by omega
      have HS' := HS.out
      rw [List.take_length] at HS'
      obtain ⟨P, hP⟩ : ∃ q, q = partRows n G 0 := ⟨_, rfl⟩
      rw [← hP] at HS'
      have HPP := Aside0.mk hP
      obtain ⟨Av, cv, ev, _, _⟩ := HS'.readS 0 rfl
      subst ev
      have HT := Aside0.mk HS'
      clear HS HS' hP
      have z0 : wr.cell? ⟨b5, 0, none⟩ = some (.slice A0 n.length c0) := St.cellB HT.out 1 rfl 0 rfl
      have z1 : wr.cell? ⟨b5, 1, none⟩ = some (.slice Av P.length cv) := St.cellB HT.out 1 rfl 1 rfl
      have y0 : wr.cell? ⟨b4, 0, none⟩ = some (.slice none 0 0) := St.cellB HT.out 2 rfl 0 rfl
      have y1 : wr.cell? ⟨b4, 1, none⟩ = some (.slice none 0 0) := St.cellB HT.out 2 rfl 1 rfl
      have f0 := blk_frozen (St.heapB HT.out 2 rfl) 0
      have f1 := blk_frozen (St.heapB HT.out 2 rfl) 1
      go_wp2
      have HE := Aside0.mk (St.putB (St.putB HT.out 2 rfl 0 (.slice A0 n.length c0) rfl) 2 rfl 1 (.slice Av P.length cv) rfl)
      refine bodyPost_ret (results_single rfl (Vals.cell b4 28 #[.slice A0 n.length c0, .slice Av P.length cv] (0, 0) _ rfl (St.heapB HE.out 2 rfl) Try.underlying28 rfl (by kernel_rfl) Vals.nil)) rfl ?_
      rw [← HPP.out]
      exact ⟨_, rfl, Kd.S_mono (HE.out.get 0 rfl) (fun _ _ => trivial), HE.out.below⟩
end Go.Proofs.Ytljjjdgnpnnmoaa.Q

set_option linter.unusedVariables false
set_option linter.unusedSimpArgs false
namespace Go.Proofs.Ytljjjdgnpnnmoaa.Q
open Go.RowKit Go.Proofs.Ytljjjdgnpnnmoaa.F Go.Proofs.YtljjjdgnpnnmoaaW.PrintWords Go.Proofs.YtljjjdgnpnnmoaaW.PrintLast Go.Proofs.YtljjjdgnpnnmoaaW.PrintMore
def setAt (G : List (List Int)) (i c x : Int) : List (List Int) := G.set i.toNat ((rd_L1 G i).set c.toNat x)
theorem rows_set (G : List (List Int)) (i r : Nat) (q : List Int) (h : i < G.length) : rd_L1 (G.set i q) (r : Int) = if i = r then q else rd_L1 G (r : Int) := by
  rw [rows_nat, rows_nat, List.getD_eq_getElem?_getD, List.getElem?_set]
  by_cases e : i = r
  · subst e; rw [if_pos rfl, if_pos h, if_pos rfl]; rfl
  · rw [if_neg e, if_neg e, List.getD_eq_getElem?_getD]
theorem setAt_length (G : List (List Int)) (i c x : Int) : (setAt G i c x).length = G.length := by simp [setAt]
theorem setAt_row (G : List (List Int)) (i c r : Nat) (x : Int) (hi : i < G.length) : rd_L1 (setAt G (i : Int) (c : Int) x) (r : Int) = if i = r then (rd_L1 G (i : Int)).set c x else rd_L1 G (r : Int) := by
  unfold setAt
  rw [Int.toNat_natCast, Int.toNat_natCast, rows_set G i r _ hi]
theorem setAt_len (G : List (List Int)) (i c r : Nat) (x : Int) (hi : i < G.length) : (rd_L1 (setAt G (i : Int) (c : Int) x) (r : Int)).length = (rd_L1 G (r : Int)).length := by
  rw [setAt_row G i c r x hi]
  split
  · rename_i e; subst e; rw [List.length_set]
  · rfl
theorem setAt_rd (G : List (List Int)) (i c r q : Nat) (x : Int) (hi : i < G.length) (hc : c < (rd_L1 G (i : Int)).length) : rd (rd_L1 (setAt G (i : Int) (c : Int) x) (r : Int)) (q : Int) = if r = i ∧ q = c then x else rd (rd_L1 G (r : Int)) (q : Int) := by
  rw [setAt_row G i c r x hi]
  by_cases e : i = r
  · subst e
    rw [if_pos rfl, rd_set _ c q x hc]
    by_cases e2 : c = q
    · subst e2; rw [if_pos rfl, if_pos ⟨rfl, rfl⟩]
    · rw [if_neg e2, if_neg (fun h => e2 h.2.symm)]
  · rw [if_neg e, if_neg (fun h => e h.1.symm)]
theorem cellOf_nat (G : List (List Int)) (i c : Nat) : cellOf G (i : Int) (c : Int) = if i < G.length ∧ c < (rd_L1 G (i : Int)).length then rd (rd_L1 G (i : Int)) (c : Int) else 0 := by
  unfold cellOf
  by_cases h : i < G.length
  · rw [if_pos (by omega)]
    by_cases h2 : c < (rd_L1 G (i : Int)).length
    · rw [if_pos ⟨h, h2⟩, at0_nat _ _ h2]
    · rw [if_neg (fun g => h2 g.2), at0_out _ _ (by omega)]
  · rw [if_neg (by omega), if_neg (fun g => h g.1)]
theorem cellOf_neg (G : List (List Int)) (i c : Int) (h : i < 0 ∨ c < 0) : cellOf G i c = 0 := by
  unfold cellOf
  by_cases hi : 0 ≤ i ∧ i < (G.length : Int)
  · rw [if_pos hi, at0_out _ _ (by omega)]
  · rw [if_neg hi]
theorem cellOf_setAt (G : List (List Int)) (i c r q : Nat) (x : Int) (hi : i < G.length) (hc : c < (rd_L1 G (i : Int)).length) : cellOf (setAt G (i : Int) (c : Int) x) (r : Int) (q : Int) = if r = i ∧ q = c then x else cellOf G (r : Int) (q : Int) := by
  rw [cellOf_nat, cellOf_nat, setAt_length, setAt_len G i c r x hi, setAt_rd G i c r q x hi hc]
  by_cases e : r = i ∧ q = c
  · obtain ⟨rfl, rfl⟩ := e
    simp only [and_self, if_true, hi, hc]
  · rw [if_neg e, if_neg e]
theorem cellOf_in {G : List (List Int)} {i c : Int} (h : cellOf G i c ≠ 0) : ∃ a b : Nat, i = (a : Int) ∧ c = (b : Int) ∧ a < G.length ∧ b < (rd_L1 G (a : Int)).length := by
  by_cases h0 : i < 0 ∨ c < 0
  · exact absurd (cellOf_neg G i c h0) h
  · obtain ⟨a, rfl⟩ : ∃ a : Nat, i = (a : Int) := ⟨i.toNat, by omega⟩
    obtain ⟨b, rfl⟩ : ∃ b : Nat, c = (b : Int) := ⟨c.toNat, by omega⟩
    rw [cellOf_nat] at h
    by_cases h1 : a < G.length ∧ b < (rd_L1 G (a : Int)).length
    · exact ⟨a, b, rfl, rfl, h1.1, h1.2⟩
    · rw [if_neg h1] at h; exact absurd rfl h
def NonNeg (G : List (List Int)) : Prop := ∀ r q : Nat, 0 ≤ cellOf G (r : Int) (q : Int)
theorem NonNeg.cell {G : List (List Int)} (h : NonNeg G) (i c : Int) : 0 ≤ cellOf G i c := by
  by_cases e : cellOf G i c = 0
  · rw [e]; exact Int.le_refl _
  · obtain ⟨a, b, rfl, rfl, _, _⟩ := cellOf_in e
    exact h a b
theorem NonNeg.set {G : List (List Int)} (h : NonNeg G) {i c : Nat} {x : Int} (hi : i < G.length) (hc : c < (rd_L1 G (i : Int)).length) (hx : 0 ≤ x) : NonNeg (setAt G (i : Int) (c : Int) x) := by
  intro r q
  rw [cellOf_setAt G i c r q x hi hc]
  split
  · exact hx
  · exact h r q
structure Sq (X G : List (List Int)) (i c : Nat) : Prop where
  len : X.length = 11
  row : ∀ r : Nat, r < 11 → (rd_L1 X (r : Int)).length = 11
  num : ∀ r q : Nat, r < 11 → q < 11 → rd (rd_L1 X (r : Int)) (q : Int) = if r = i ∧ q = c then 0 else cellOf G (r : Int) (q : Int)
theorem Sq.move {X G : List (List Int)} {i c i' c' : Nat} (h : Sq X G i c) (hi : i < G.length) (hc : c < (rd_L1 G (i : Int)).length) (h11 : i < 11 ∧ c < 11 ∧ i' < 11 ∧ c' < 11) (hne : ¬ (i' = i ∧ c' = c)) (x : Int) :
    Sq (setAt (setAt X (i : Int) (c : Int) x) (i' : Int) (c' : Int) 0) (setAt G (i : Int) (c : Int) x) i' c' := by
  obtain ⟨a1, a2, a3, a4⟩ := h11
  have l1 := h.len
  have b1 : i < X.length := by omega
  have b2 : c < (rd_L1 X (i : Int)).length := by rw [h.row i a1]; omega
  have b3 : i' < (setAt X (i : Int) (c : Int) x).length := by rw [setAt_length]; omega
  have b4 : c' < (rd_L1 (setAt X (i : Int) (c : Int) x) (i' : Int)).length := by rw [setAt_len X i c i' x b1, h.row i' a3]; omega
  refine ⟨by rw [setAt_length, setAt_length]; exact l1, fun r hr => ?_, fun r q hr hq => ?_⟩
  · rw [setAt_len _ i' c' r 0 b3, setAt_len X i c r x b1]; exact h.row r hr
  · rw [setAt_rd _ i' c' r q 0 b3 b4, setAt_rd X i c r q x b1 b2, h.num r q hr hq, cellOf_setAt G i c r q x hi hc]
    by_cases e1 : r = i' ∧ q = c'
    · rw [if_pos e1, if_pos e1]
    · rw [if_neg e1, if_neg e1]
      by_cases e2 : r = i ∧ q = c
      · rw [if_pos e2, if_pos e2]
      · rw [if_neg e2, if_neg e2, if_neg e2]
end Go.Proofs.Ytljjjdgnpnnmoaa.Q

set_option linter.unusedVariables false
set_option linter.unusedSimpArgs false
namespace Go.Proofs.Ytljjjdgnpnnmoaa.Q
open Go.RowKit Go.Proofs.Ytljjjdgnpnnmoaa.F Go.Proofs.YtljjjdgnpnnmoaaW.PrintWords Go.Proofs.YtljjjdgnpnnmoaaW.PrintLast Go.Proofs.YtljjjdgnpnnmoaaW.PrintMore
theorem toTableau_ev (n : List Int) (m : List (List Int)) (hn : n.length ≤ 1048576) (hm : m.length ≤ 1048576) (hr : ∀ r ∈ m, r.length ≤ 1048576) : Ev (fun k => laws_toTableau.f k n m) (n, m) := by
  unfold laws_toTableau.f
  exact Ev.bind (toIntS_ev n hn) (Ev.bind (toIntSS_ev m hm hr) (ev_val rfl))
end Go.Proofs.Ytljjjdgnpnnmoaa.Q

set_option linter.unusedVariables false
set_option linter.unusedSimpArgs false
namespace Go.Proofs.Ytljjjdgnpnnmoaa.Q
open Go.RowKit Go.Proofs.Ytljjjdgnpnnmoaa.F Go.Proofs.YtljjjdgnpnnmoaaW.PrintWords Go.Proofs.YtljjjdgnpnnmoaaW.PrintLast Go.Proofs.YtljjjdgnpnnmoaaW.PrintMore
section
variable {w W : World} {L L' : List Ob} {v0 v1 : Value} {n : List Int} {m : List (List Int)}
theorem St.boxAt (h : St w W L) (cs : Array Value) (t : Nat) {b : Nat} (hb : b = W.heap.size) : St w (W.alloc (.cells cs t (0, 0))) (obB b cs t :: L) := by
  subst hb
  exact h.box cs t
theorem szTableau_evb (n : List Int) (m : List (List Int)) (left : Int) (h0 : 0 ≤ left) (h1 : left ≤ 1048576) (hn : n.length ≤ maxLen) (hm : m.length ≤ maxLen) (hr : ∀ r ∈ m, r.length ≤ maxLen) :
    ∃ z, Ev (fun k => laws_szTableau.f k n m left) z ∧ (z < 0 ∨ (0 ≤ z ∧ z = left - (n.length : Int) - (m.length : Int) - (bulk m : Int))) := by
  unfold laws_szTableau.f
  by_cases h2 : left - (n.length : Int) < 0
  · refine ⟨-1, ev_bindc (szIntS_eq n left (by omega) (by omega) hn) ?_, .inl (by omega)⟩
    rw [if_pos h2]
    exact ev_pos (by omega) (ev_val rfl)
  · obtain ⟨z, hz, hp⟩ := szIntSS_ev m (left - (n.length : Int)) (by omega) (by omega) hm hr
    refine ⟨if z < 0 then -1 else z, ev_bindc (szIntS_eq n left (by omega) (by omega) hn) ?_, ?_⟩
    · rw [if_neg h2]
      refine ev_neg h2 (Ev.bind hz (ev_ite (fun h => ev_val (by rw [if_pos h])) (fun h => ev_val (by rw [if_neg h]))))
    · by_cases h : z < 0
      · rw [if_pos h]; exact .inl (by omega)
      · rw [if_neg h]
        exact .inr (by omega)
theorem szTableau_st {a z : Int} (h : St w W L) (h0 : Reads (Kd.int .i64) W v0 n) (h1 : Reads (Kd.slice 3 (Kd.int .i64)) W v1 m) (hE : Ev (fun k => laws_szTableau.f k n m a) z) :
    Calls Try.prog 10 #[.agg #[v0, v1], .int .i64 a] W fun e W' => e = .returned (.int .i64 z) ∧ St w W' L := by
  obtain ⟨A0, c0, rfl, hc0, hC0⟩ := h0
  obtain ⟨A1, c1, rfl, hc1, hC1⟩ := h1
  obtain ⟨K, hK⟩ := hE
  refine (laws_szTableau.calls K A0 c0 n A1 c1 m a z W hC0 hc0 hC1 hc1 (hK K (Nat.le_refl _))).mono ?_
  rintro e W' ⟨rfl, hd⟩
  exact ⟨rfl, h.quiet hd⟩
theorem toTableau_st (h : St w W L) (h0 : Reads (Kd.int .i64) W v0 n) (h1 : Reads (Kd.slice 3 (Kd.int .i64)) W v1 m) (hn : n.length ≤ 1048576) (hm : m.length ≤ 1048576) (hb : ∀ r ∈ m, r.length ≤ 1048576) :
    Calls Try.prog 12 #[.agg #[v0, v1]] W fun e W' => ∃ u0 u1 ok0 ok1, e = .returned (.agg #[u0, u1]) ∧ St w W' (obR (Kd.int .i64) 3 w ok0 u0 n :: obS (Kd.slice 3 (Kd.int .i64)) 22 w ok1 u1 m :: L) := by
  obtain ⟨A0, c0, rfl, hc0, hC0⟩ := h0
  obtain ⟨A1, c1, rfl, hc1, hC1⟩ := h1
  obtain ⟨K, hK⟩ := toTableau_ev n m hn hm hb
  refine (laws_toTableau.calls K A0 c0 n A1 c1 m n m W hC0 hc0 hC1 hc1 (hK K (Nat.le_refl _))).mono ?_
  rintro e W' ⟨u0, u1, rfl, hR, hS, hB⟩
  obtain ⟨ok0, ok1, h1⟩ := St.addRS rfl h hB hR hS
  exact ⟨u0, u1, ok0, ok1, rfl, h1⟩
end
end Go.Proofs.Ytljjjdgnpnnmoaa.Q

set_option linter.unusedVariables false
set_option linter.unusedSimpArgs false
namespace Go.Proofs.Ytljjjdgnpnnmoaa.Q
open Go.RowKit Go.Proofs.Ytljjjdgnpnnmoaa.F Go.Proofs.YtljjjdgnpnnmoaaW.PrintWords Go.Proofs.YtljjjdgnpnnmoaaW.PrintLast Go.Proofs.YtljjjdgnpnnmoaaW.PrintMore
def LRow (w : World) (base : Nat) (e : TypeId) (v : Value) (n : Nat) (xs : List Value) : Prop :=
  xs.length = n ∧ ((v = .slice none 0 0 ∧ n = 0) ∨ ∃ g cap cur, v = .slice (some ⟨g, 0, none⟩) n cap ∧ base ≤ g ∧ w.heap[g]? = some (.cells cur e (0, 0)) ∧ n ≤ cap ∧ cap ≤ maxLen ∧ cap ≤ cur.size ∧ cur.toList.take n = xs)
def LR (e : Nat) (w : World) (base : Nat) (ok : Nat → Prop) (v : Value) (xs : List Int) : Prop :=
  (∀ k, v.ownBlock = some k → ok k) ∧ LRow w base e v xs.length (nums .i64 xs)
section
variable {e : Nat} {w w1 W : World} {base : Nat} {ok ok' : Nat → Prop} {v : Value} {xs : List Int}
theorem LR_nil (e : Nat) (w : World) (base : Nat) (ok : Nat → Prop) : LR e w base ok (.slice none 0 0) [] := ⟨fun k hk => by simp [Value.ownBlock] at hk, by simp [nums], .inl ⟨rfl, rfl⟩⟩
theorem LR_mono (h : LR e w base ok v xs) (hok : ∀ k, ok k → ok' k) : LR e w base ok' v xs := ⟨fun k hk => hok k (h.1 k hk), h.2⟩
theorem LR_typed (h : LR e w base ok v xs) (k : Nat) (hk : v.ownBlock = some k) : base ≤ k ∧ k < w.heap.size ∧ ∃ cells, w.heap[k]? = some (.cells cells e (0, 0)) := by
  rcases h.2.2 with ⟨rfl, _⟩ | ⟨g, cap, cur, rfl, hg, hh, _⟩
  · simp [Value.ownBlock] at hk
  · have : g = k := by simpa [Value.ownBlock] using hk
    subst this
    exact ⟨hg, blk_lt hh, cur, hh⟩
theorem LR_tight (h : LR e w base ok v xs) : LR e w base (fun k => some k = v.ownBlock) v xs := ⟨fun k hk => hk.symm, h.2⟩
theorem LR_bound (h : LR e w base ok v xs) : LR e w base (fun k => ok k ∧ base ≤ k ∧ k < w.heap.size ∧ ∃ q, q ∈ [e] ∧ ∃ cells, w.heap[k]? = some (.cells cells q (0, 0))) v xs :=
  ⟨fun k hk => by obtain ⟨h1, h2, h3⟩ := LR_typed h k hk; exact ⟨h.1 k hk, h1, h2, e, by simp, h3⟩, h.2⟩
theorem LR_move (h : LR e w base ok v xs) (hm : ∀ k, ok k → w1.heap[k]? = w.heap[k]?) : LR e w1 base ok v xs := by
  refine ⟨h.1, h.2.1, ?_⟩
  rcases h.2.2 with h2 | ⟨g, cap, cur, rfl, hg, hh, r⟩
  · exact .inl h2
  · exact .inr ⟨g, cap, cur, rfl, hg, (hm g (h.1 g (by simp [Value.ownBlock]))).trans hh, r⟩
theorem LR_lower {base' : Nat} (h : LR e w base ok v xs) (hb : base' ≤ base) : LR e w base' ok v xs := by
  refine ⟨h.1, h.2.1, ?_⟩
  rcases h.2.2 with h2 | ⟨g, cap, cur, rfl, hg, r⟩
  · exact .inl h2
  · exact .inr ⟨g, cap, cur, rfl, Nat.le_trans hb hg, r⟩
theorem LR_step (h : LR e w base ok v xs) (hm : ∀ k, ok k → k < w.heap.size → w1.heap[k]? = w.heap[k]?) : LR e w1 base ok v xs :=
  LR_mono (LR_move (LR_bound h) (fun k hk => hm k hk.1 hk.2.2.1)) (fun _ hk => hk.1)
theorem LR_C (h : LR e w base ok v xs) : ∃ A c, v = .slice A xs.length c ∧ xs.length ≤ c ∧ (Kd.int .i64).C w A xs.length xs := by
  obtain ⟨_, hl, h2⟩ := h
  rcases h2 with ⟨rfl, h0⟩ | ⟨g, cap, cur, rfl, hg, hh, hnc, hcm, hcs, ht⟩
  · have : xs = [] := List.eq_nil_of_length_eq_zero h0
    subst this
    exact ⟨none, 0, rfl, Nat.le_refl _, Kd.C_nil _ _⟩
  · refine ⟨_, cap, rfl, hnc, rfl, Nat.le_trans hnc (by unfold maxLen at hcm; omega), fun _ => ⟨_, rfl, fun j p hj => ⟨[.int .i64 p], rfl, rfl, fun i u hu => ?_⟩⟩⟩
    cases i with
    | zero =>
      obtain rfl : Value.int .i64 p = u := by simpa using hu
      have hjl : j < xs.length := (List.getElem?_eq_some_iff.1 hj).1
      rw [show j * (Kd.int .i64).sz + 0 = j from by show j * 1 + 0 = j; omega, add_at, Nat.zero_add]
      have h3 : (nums .i64 xs)[j]? = some (.int .i64 p) := by simp [nums, hj]
      rw [← ht, List.getElem?_take, if_pos hjl] at h3
      rw [blk_cell hh j]
      simpa using h3
    | succ i => simp at hu
theorem LR_slice (h : LR e w base ok v xs) : ∃ A c, v = .slice A xs.length c := by
  obtain ⟨A, c, he, _⟩ := LR_C h
  exact ⟨A, c, he⟩
theorem R_LR (h : Kd.R (Kd.int .i64) e w base ok v xs) : LR e w base ok v xs := by
  obtain ⟨h0, inner, ⟨h1, h2⟩, hr⟩ := h
  have hn : inner = nums .i64 xs := by
    refine List.ext_getElem? fun j => ?_
    by_cases hj : j < xs.length
    · have h3 := hr.2 j _ (List.getElem?_eq_getElem hj)
      have h4 : (inner.drop (j * 1)).take 1 = [.int .i64 xs[j]] := h3
      have hl : inner.length = xs.length := by rw [hr.1]; show xs.length * 1 = _; omega
      rw [Nat.mul_one, List.drop_eq_getElem_cons (by omega)] at h4
      have h5 : inner[j]'(by omega) = .int .i64 xs[j] := (List.cons.inj (show [inner[j]'(by omega)] = [.int .i64 xs[j]] from h4)).1
      rw [List.getElem?_eq_getElem (by omega), h5]
      simp [nums, List.getElem?_eq_getElem hj]
    · have hl : inner.length = xs.length := by rw [hr.1]; show xs.length * 1 = _; omega
      rw [List.getElem?_eq_none (by omega), List.getElem?_eq_none (by simp [nums]; omega)]
  subst hn
  refine ⟨h0, by simp [nums], ?_⟩
  rcases h2 with h2 | ⟨g, cap, cur, rfl, hg, hh, hnc, hcm, hcs, ht⟩
  · exact .inl h2
  · refine .inr ⟨g, cap, cur, rfl, hg, hh, hnc, hcm, by rw [hcs]; show cap ≤ cap * 1; omega, ?_⟩
    have h5 : cur.toList.take (xs.length * 1) = nums .i64 xs := ht
    rwa [Nat.mul_one] at h5
theorem LR_clip {A : Option Addr} {n c : Nat} (h : LR e w base ok (.slice A n c) xs) : LR e w base ok (.slice A n n) xs := by
  refine ⟨fun k hk => h.1 k (by
    cases A with
    | none => simp [Value.ownBlock] at hk
    | some a => simpa [Value.ownBlock] using hk), h.2.1, ?_⟩
  rcases h.2.2 with ⟨h2, h0⟩ | ⟨g, cap, cur, he, hg, hh, hnc, hcm, hcs, ht⟩
  · injection h2 with ha hn hc
    exact .inl ⟨by rw [ha, hn], h0⟩
  · injection he with ha hn hc
    exact .inr ⟨g, n, cur, by rw [ha, ← hn], hg, hh, by omega, by omega, by omega, ht⟩
theorem LR_put {g n c : Nat} (h : LR e w base ok (.slice (some ⟨g, 0, none⟩) n c) xs) (i : Nat) (hi : i < xs.length) (x : Int) : LR e (w.setCell ⟨g, i, none⟩ (.int .i64 x)) base ok (.slice (some ⟨g, 0, none⟩) n c) (xs.set i x) := by
  refine ⟨h.1, by simp [nums], ?_⟩
  rcases h.2.2 with ⟨h2, h0⟩ | ⟨g', cap, cur, he, hg, hh, hnc, hcm, hcs, ht⟩
  · cases h2
  · injection he with ha hn hc
    injection ha with ha
    injection ha with ha _ _
    subst ha
    refine .inr ⟨g, cap, cur.setIfInBounds i (.int .i64 x), by rw [List.length_set, hn, hc], hg, blk_put hh i _ rfl, by rw [List.length_set]; exact hnc, hcm, by rw [Array.size_setIfInBounds]; exact hcs, ?_⟩
    rw [List.length_set, Array.toList_setIfInBounds, List.take_set, ht]
    simp [nums, List.map_set]
theorem LR_cell {g n c : Nat} (h : LR e w base ok (.slice (some ⟨g, 0, none⟩) n c) xs) (i : Nat) (hi : i < xs.length) : w.cell? ⟨g, i, none⟩ = some (.int .i64 (xs.getD i 0)) ∧ w.frozen? ⟨g, i, none⟩ = false := by
  rcases h.2.2 with ⟨h2, h0⟩ | ⟨g', cap, cur, he, hg, hh, hnc, hcm, hcs, ht⟩
  · cases h2
  · injection he with ha hn hc
    injection ha with ha
    injection ha with ha _ _
    subst ha
    refine ⟨?_, blk_frozen hh i⟩
    have h3 : (nums .i64 xs)[i]? = some (.int .i64 (xs.getD i 0)) := by simp [nums, List.getD_eq_getElem?_getD, List.getElem?_eq_getElem hi]
    rw [← ht, List.getElem?_take, if_pos hi] at h3
    rw [blk_cell hh i]
    simpa using h3
theorem LR_form (h : LR e w base ok v xs) (hl : 0 < xs.length) : ∃ g cap, v = .slice (some ⟨g, 0, none⟩) xs.length cap ∧ xs.length ≤ cap ∧ base ≤ g ∧ g < w.heap.size := by
  rcases h.2.2 with ⟨_, h0⟩ | ⟨g, cap, cur, rfl, hg, hh, hnc, r⟩
  · omega
  · exact ⟨g, cap, rfl, hnc, hg, blk_lt hh⟩
end
def obL (t : Nat) (w : World) (ok : Nat → Prop) (v : Value) (xs : List Int) : Ob := ⟨ok, fun W => LR t W w.heap.size ok v xs⟩
section
variable {t : Nat} {w W W' : World} {ok ok' : Nat → Prop} {v : Value} {xs : List Int} {L L' : List Ob}
theorem firmL : Firm (obL t w ok v xs) := fun _ _ h hm => LR_step h hm
theorem St.readL (h : St w W L) (i : Nat) (hi : L[i]? = some (obL t w ok v xs)) : Reads (Kd.int .i64) W v xs := LR_C (h.get i hi)
theorem St.addL (h : St w W L) (hb : Below W.heap.size W W') (hr : LR t W' W.heap.size ok v xs) : ∃ ok1, St w W' (obL t w ok1 v xs :: L) :=
  ⟨_, h.add (o := obL t w (fun k => W.heap.size ≤ k ∧ k < W'.heap.size) v xs) hb (fun _ hk => hk) (LR_mono (LR_lower (LR_bound hr) h.below.size) (fun k hk => ⟨hk.2.1, hk.2.2.1⟩)) firmL⟩
theorem St.addLS {β : Type} {d' : Kd β} {t' : Nat} {v' : Value} {ys : List β} (h : St w W L) (hb : Below W.heap.size W W') (hr : LR t W' W.heap.size (fun _ => True) v xs) (hr' : Kd.S d' t' W' W.heap.size (fun k => some k ≠ v.ownBlock) v' ys) : ∃ ok1 ok2, St w W' (obL t w ok1 v xs :: obS d' t' w ok2 v' ys :: L) := by
  have hs := h.below.size
  refine ⟨_, _, h.add2 (o := obL t w (fun k => some k = v.ownBlock ∧ W.heap.size ≤ k ∧ k < W'.heap.size) v xs) (o' := obS d' t' w (fun k => some k ≠ v.ownBlock ∧ W.heap.size ≤ k ∧ k < W'.heap.size) v' ys) hb (fun _ hk => hk.2) ?_ firmL (fun _ hk => hk.2) ?_ firmS (fun _ hk hk2 => hk2.1 hk.1)⟩
  · exact LR_mono (LR_lower (LR_bound (LR_tight hr)) hs) (fun k hk => ⟨hk.1, hk.2.1, hk.2.2.1⟩)
  · exact Kd.S_mono (Kd.S_lower (Kd.S_bound hr') hs) (fun k hk => ⟨hk.1, hk.2.1, hk.2.2.1⟩)
theorem St.giveSL {β : Type} {d' : Kd β} {t' : Nat} {ok0 ok1 : Nat → Prop} {v0 v1 : Value} {xs : List Int} {ys : List β} (h : St w W L) (i j : Nat) (hij : j < i) (hi : L[i]? = some (obL t w ok0 v0 xs)) (hj : L[j]? = some (obS d' t' w ok1 v1 ys)) :
    LR t W w.heap.size (fun _ => True) v0 xs ∧ Kd.S d' t' W w.heap.size (fun k_ => some k_ ≠ (v0 : Value).ownBlock) v1 ys ∧ Below w.heap.size w W := by
  have hR : LR t W w.heap.size ok0 v0 xs := h.get i hi
  have hS : Kd.S d' t' W w.heap.size ok1 v1 ys := h.get j hj
  refine ⟨LR_mono hR (fun _ _ => trivial), Kd.S_mono hS (fun k hk e => ?_), h.below⟩
  obtain ⟨hil, hi'⟩ := List.getElem?_eq_some_iff.1 hi
  obtain ⟨hjl, hj'⟩ := List.getElem?_eq_some_iff.1 hj
  have hp := List.pairwise_iff_getElem.1 h.apart j i hjl hil hij k
  rw [hi', hj'] at hp
  exact hp hk (hR.1 k e.symm)
end
end Go.Proofs.Ytljjjdgnpnnmoaa.Q

set_option linter.unusedVariables false
set_option linter.unusedSimpArgs false
namespace Go.Proofs.Ytljjjdgnpnnmoaa.Q
open Go.RowKit Go.Proofs.Ytljjjdgnpnnmoaa.F Go.Proofs.YtljjjdgnpnnmoaaW.PrintWords Go.Proofs.YtljjjdgnpnnmoaaW.PrintLast Go.Proofs.YtljjjdgnpnnmoaaW.PrintMore
set_option maxHeartbeats 4000000 in
set_option maxRecDepth 100000 in
theorem markLoose_calls (P : Nat → Prop) (u : Value) (l : List Int) (m : Nat) (w0 w : World) (hB : Below w0.heap.size w0 w) (hR : LR 3 w w0.heap.size P u l) (hl : l.length ≤ 1152921504606846976) (hm : m ≤ 2305843009213693952) :
    Calls Try.prog 19 #[u, .int .i64 (m : Int)] w fun e w' => e = .returned (.int .i64 ((m + l.length : Nat) : Int)) ∧ LR 3 w' w0.heap.size P u (marks m l.length) ∧ Below w0.heap.size w0 w' ∧ Kept w w' (fun k => some k = u.ownBlock) := by
  obtain ⟨A, c, hu⟩ := LR_slice hR
  subst hu
  have HR := Aside0.mk hR
  have HB := Aside0.mk hB
  clear hR hB
  go_enter Try.func19, Try.ntmps19
  go_wp2
  go_loopg [1, 5] l.length (fun kq v1 v5 wr => ∃ i : Nat, i ≤ l.length ∧ l.length - i ≤ kq ∧ v1 = .int .i64 ((m + i : Nat) : Int) ∧ v5 = .int .i64 i ∧ Aside0 (LR 3 wr w0.heap.size P (.slice A l.length c) (marks m i ++ l.drop i)) ∧ Aside0 (Below w0.heap.size w0 wr) ∧ Aside0 (Kept w wr (fun k => some k = (Value.slice A l.length c).ownBlock)))
  case atStart => exact ⟨0, Nat.zero_le _, by omega, by go_num, rfl, ⟨by simpa [marks] using HR.out⟩, HB, ⟨Kept.refl _ _⟩⟩
  case round =>
    clear HR HB
    obtain ⟨i, hi, hg, rfl, rfl, HR, HB, HK⟩ := hrel
    by_cases hlt : i < l.length
    · have hltz : (i : Int) < (l.length : Int) := by omega
      have hxl : (marks m i ++ l.drop i).length = l.length := by rw [List.length_append, marks_length, List.length_drop]; omega
      obtain ⟨g, cap, he, _, hgb, _⟩ := LR_form HR.out (by omega)
      injection he with ea e2_ e3_
      clear e2_ e3_
      subst ea
      obtain ⟨hc, hf⟩ := LR_cell HR.out i (by omega)
      have HP := Aside0.mk (LR_put HR.out i (by omega) ((m + i : Nat) : Int))
      have HB2 := Aside0.mk (below_set (j := i) (v := .int .i64 ((m + i : Nat) : Int)) HB.out hgb)
      have HK2 := Aside0.mk (HK.out.setCell (p := ⟨g, i, none⟩) (.inl (by simp [Value.ownBlock])) (.int .i64 ((m + i : Nat) : Int)))
      have e1 : (marks m i ++ l.drop i).set i ((m + i : Nat) : Int) = marks m (i + 1) ++ l.drop (i + 1) := by
        rw [List.set_append_right _ _ (by rw [marks_length]; omega), marks_length, Nat.sub_self, drop_rd l i hlt, marks_succ]
        simp
      have E1 := Aside0.mk e1
      obtain ⟨y, hy⟩ : ∃ y, y = (marks m i ++ l.drop i).getD i 0 := ⟨_, rfl⟩
      rw [← hy] at hc
      obtain ⟨q, hq⟩ : ∃ q : Nat, q = m + i := ⟨_, rfl⟩
      have hqb : q ≤ 4611686018427387904 := by omega
      have HQ := Aside0.mk hq
      rw [← hq] at HP HB2 HK2 ⊢
      clear e1 hxl hy hq HR HB HK
      go_wp2
      go_roundg (l.length - (i + 1))
      case measure => omega
      case rel => exact ⟨i + 1, by omega, by omega, by rw [show m + (i + 1) = q + 1 by have := HQ.out; omega]; go_num, by go_num, ⟨by rw [← E1.out, ← HQ.out]; exact HP.out⟩, HB2, HK2⟩
    · have : i = l.length := by omega
      subst this
      have hltz : ¬ (l.length : Int) < (l.length : Int) := by omega
      have hx := HR.out
      rw [List.drop_length, List.append_nil] at hx
      have HX := Aside0.mk hx
      clear HR hx
      go_wp2
      go_ret
      exact ⟨rfl, HX.out, HB.out, HK.out⟩
section
variable {w W : World} {L L' : List Ob} {o : Ob} {ok ok' : Nat → Prop} {v0 v1 : Value} {n : List Int} {m : List (List Int)}
theorem markLoose_st (h : St w W L) (i : Nat) (hi : L[i]? = some (obL 3 w ok v0 n)) (q : Nat) (hq : q ≤ 2305843009213693952) (hl : n.length ≤ 1152921504606846976) (hL : L.set i (obL 3 w ok v0 (marks q n.length)) = L') :
    Calls Try.prog 19 #[v0, .int .i64 (q : Int)] W fun e W' => e = .returned (.int .i64 ((q + n.length : Nat) : Int)) ∧ St w W' L' := by
  have hR : LR 3 W w.heap.size ok v0 n := h.get i hi
  refine (markLoose_calls ok v0 n q w W h.below hR hl hq).mono ?_
  rintro e W' ⟨rfl, hr, hb, hk⟩
  exact ⟨rfl, h.mark (o' := obL 3 w ok v0 (marks q n.length)) i hi rfl firmL hb ⟨hk.1, fun k hlt hne => hk.2 k hlt (fun e => hne (hR.1 k e.symm))⟩ hr hL⟩
set_option maxHeartbeats 4000000 in
set_option maxRecDepth 100000 in
theorem markTabLoose_st (h : St w W L) (i j : Nat) (hi : L[i]? = some (obL 3 w ok v0 n)) (hij : i ≠ j) (hj : L[j]? = some (obS (Kd.slice 3 (Kd.int .i64)) 22 w ok' v1 m)) (q : Nat)
    (hq : q ≤ 576460752303423488) (hn : n.length ≤ 576460752303423488) (hm : m.length ≤ 576460752303423488) (hb : bulk m ≤ 576460752303423488)
    (hL : (L.set i (obL 3 w ok v0 (marks q n.length))).set j (obS (Kd.slice 3 (Kd.int .i64)) 22 w ok' v1 (rowMarks (q + n.length) m)) = L') :
    Calls Try.prog 18 #[.agg #[v0, v1], .int .i64 (q : Int)] W fun e W' => e = .returned (.int .i64 ((q + n.length + bulk m : Nat) : Int)) ∧ St w W' L' := by
  obtain ⟨A0, c0, rfl, _, _⟩ := h.readL i hi
  obtain ⟨A1, c1, rfl, _, _⟩ := h.readS j hj
  have H0 := Aside0.mk h
  have HI := Aside0.mk hi
  have HJ := Aside0.mk hj
  have HF := Aside0.mk (And.intro hq (And.intro hn (And.intro hm hb)))
  clear h hi hj hq hn hm hb
  go_enter Try.func18, Try.ntmps18
  go_wp2_with (first
    | ((with_reducible refine gate_dst (N := 2) rfl ?_); refine box_event ?hg (N := 2) ?hd (cs := #[.slice A0 n.length c0, .slice A1 m.length c1]) (t := 28) ?hr ?_; (case hd => rfl); (case hg => rfl); (case hr => first | (go_simp; done) | (go_simp; rfl)); intro b hb w1 hx hl; have H1 := Aside0.mk (H0.out.add (o := obB b #[.slice A0 n.length c0, .slice A1 m.length c1] 28) hl (fun k hk => by have h1 : k = b := hk; have h2 := blk_lt hx; omega) hx firmB); have hc0 : w1.cell? ⟨b, 0, none⟩ = some (.slice A0 n.length c0) := (blk_cell hx 0).trans rfl; clear hx hl hb)
    | (go_at_call 19; refine (markLoose_st (L' := obB b #[.slice A0 n.length c0, .slice A1 m.length c1] 28 :: L.set i (obL 3 w ok (.slice A0 n.length c0) (marks q n.length))) H1.out (i + 1) HI.out q (by have := HF.out; omega) (by have := HF.out; omega) rfl).mono ?_; rintro e w2 ⟨rfl, h_⟩; have H2 := Aside0.mk h_; have hc1 : w2.cell? ⟨b, 1, none⟩ = some (.slice A1 m.length c1) := (blk_cell (show w2.heap[b]? = some (.cells #[.slice A0 n.length c0, .slice A1 m.length c1] 28 (0, 0)) from h_.get 0 rfl) 1).trans rfl; clear h_ H1 hc0)
    | (go_at_call 42; refine (markIntSS_st (L' := obB b #[.slice A0 n.length c0, .slice A1 m.length c1] 28 :: (L.set i (obL 3 w ok (.slice A0 n.length c0) (marks q n.length))).set j (obS (Kd.slice 3 (Kd.int .i64)) 22 w ok' (.slice A1 m.length c1) (rowMarks (q + n.length) m))) H2.out (j + 1) ((List.getElem?_set_ne hij).trans HJ.out) (q + n.length) (by have := HF.out; omega) (by have := HF.out; omega) (by have := HF.out; omega) rfl).mono ?_; rintro e w3 ⟨rfl, h_⟩; have H3 := Aside0.mk h_; clear h_ H2 hc1))
  go_ret
  exact ⟨rfl, hL ▸ H3.out.drop⟩
end
end Go.Proofs.Ytljjjdgnpnnmoaa.Q

set_option linter.unusedVariables false
set_option linter.unusedSimpArgs false
namespace Go.Proofs.Ytljjjdgnpnnmoaa.Q
open Go.RowKit Go.Proofs.Ytljjjdgnpnnmoaa.F Go.Proofs.YtljjjdgnpnnmoaaW.PrintWords Go.Proofs.YtljjjdgnpnnmoaaW.PrintLast Go.Proofs.YtljjjdgnpnnmoaaW.PrintMore
theorem isum_ge {l : List Int} (h : ∀ x ∈ l, 1 ≤ x) : 0 ≤ isum l := isum_nonneg (fun x hx => by have := h x hx; omega)
theorem partOk_iff : ∀ (l : List Int) (prev s : Int), s ≤ 9 → (partOk prev s l = true ↔ (∀ x ∈ l, 1 ≤ x ∧ x ≤ 9) ∧ (∀ x ∈ l.head?, x ≤ prev) ∧ l.Pairwise (fun a b => b ≤ a) ∧ s + isum l ≤ 9)
  | [], prev, s, hs => by simp [partOk, isum, hs]
  | x :: l, prev, s, hs => by
    simp only [partOk, Bool.and_eq_true, decide_eq_true_eq]
    constructor
    · rintro ⟨⟨⟨h1, h2⟩, h3⟩, h4⟩
      obtain ⟨g1, g2, g3, g4⟩ := (partOk_iff l x (s + x) h3).1 h4
      refine ⟨fun y hy => ?_, by simpa using h2, List.Pairwise.cons (fun y hy => ?_) g3, by simp only [isum]; omega⟩
      · rcases List.mem_cons.1 hy with rfl | hy
        · exact h1
        · exact g1 y hy
      · cases l with
        | nil => simp at hy
        | cons z l =>
          have hz : z ≤ x := g2 z (by simp)
          rcases List.mem_cons.1 hy with rfl | hy
          · exact hz
          · have := (List.pairwise_cons.1 g3).1 y hy; omega
    · rintro ⟨h1, h2, h3, h4⟩
      have hx := h1 x (by simp)
      have hl : ∀ y ∈ l, 1 ≤ y ∧ y ≤ 9 := fun y hy => h1 y (by simp [hy])
      have h0 := isum_ge (fun y hy => (hl y hy).1)
      simp only [isum] at h4
      refine ⟨⟨⟨hx, h2 x (by simp)⟩, by omega⟩, (partOk_iff l x (s + x) (by omega)).2 ⟨hl, fun y hy => ?_, (List.pairwise_cons.1 h3).2, by omega⟩⟩
      exact (List.pairwise_cons.1 h3).1 y (List.mem_of_mem_head? hy)
theorem isum_mem_le {l : List Int} (h : ∀ x ∈ l, 1 ≤ x) : ∀ x ∈ l, x ≤ isum l := by
  induction l with
  | nil => simp
  | cons y l ih =>
    intro x hx
    have h0 := isum_ge (fun z hz => h z (List.mem_cons_of_mem _ hz))
    have hy := h y (by simp)
    simp only [isum]
    rcases List.mem_cons.1 hx with rfl | hx
    · omega
    · have := ih (fun z hz => h z (List.mem_cons_of_mem _ hz)) x hx; omega
theorem isPartition_iff {l : List Int} : isPartition l = true ↔ (∀ x ∈ l, 1 ≤ x) ∧ l.Pairwise (fun a b => b ≤ a) ∧ isum l ≤ 9 := by
  unfold isPartition
  rw [partOk_iff l 9 0 (by omega)]
  constructor
  · rintro ⟨h1, _, h3, h4⟩
    exact ⟨fun x hx => (h1 x hx).1, h3, by omega⟩
  · rintro ⟨h1, h2, h3⟩
    have h9 : ∀ x ∈ l, 1 ≤ x ∧ x ≤ 9 := fun x hx => ⟨h1 x hx, by have := isum_mem_le h1 x hx; omega⟩
    exact ⟨h9, fun x hx => (h9 x (List.mem_of_mem_head? hx)).2, h2, by omega⟩
theorem isPartition_anti {p : List Int} (h : isPartition p = true) {i j : Nat} (hij : i ≤ j) : at0 p (j : Int) ≤ at0 p (i : Int) := by
  obtain ⟨h1, h2, _⟩ := isPartition_iff.1 h
  by_cases hj : j < p.length
  · rw [at0_nat p j hj, at0_nat p i (by omega), rd_eq p j hj, rd_eq p i (by omega)]
    rcases Nat.lt_or_ge i j with hlt | hge
    · exact List.pairwise_iff_getElem.1 h2 i j (by omega) hj hlt
    · have : i = j := by omega
      subst this; exact Int.le_refl _
  · rw [at0_out p j (by omega)]
    by_cases hi : i < p.length
    · rw [at0_nat p i hi]
      have := h1 _ (rd_mem p i hi); omega
    · rw [at0_out p i (by omega)]; exact Int.le_refl _
theorem isPartition_desc {p : List Int} (h : isPartition p = true) (i : Nat) (hi : i < p.length) : at0 p ((i : Int) + 1) ≤ rd p (i : Int) := by
  have := isPartition_anti h (i := i) (j := i + 1) (by omega)
  rw [at0_nat p i hi] at this
  rw [Int.natCast_add, Int.natCast_one] at this
  exact this
end Go.Proofs.Ytljjjdgnpnnmoaa.Q

set_option linter.unusedVariables false
set_option linter.unusedSimpArgs false
namespace Go.Proofs.Ytljjjdgnpnnmoaa.Q
open Go.RowKit Go.Proofs.Ytljjjdgnpnnmoaa.F Go.Proofs.YtljjjdgnpnnmoaaW.PrintWords Go.Proofs.YtljjjdgnpnnmoaaW.PrintLast Go.Proofs.YtljjjdgnpnnmoaaW.PrintMore
def cornersTo (p : List Int) : Nat → List Int
  | 0 => []
  | i + 1 => cornersTo p i ++ if at0 p ((i : Int) + 1) < rd p (i : Int) then [(i : Int)] else []
def cornersOf (p : List Int) : List Int := if isPartition p = true then cornersTo p p.length else []
def isCorner (p : List Int) (a : Int) : Bool := isPartition p && decide (0 ≤ a ∧ a < (p.length : Int) ∧ at0 p (a + 1) < rd p a)
theorem cornersTo_mem (p : List Int) (a : Int) : ∀ i, a ∈ cornersTo p i ↔ 0 ≤ a ∧ a < (i : Int) ∧ at0 p (a + 1) < rd p a
  | 0 => by simp [cornersTo]; omega
  | i + 1 => by
    simp only [cornersTo, List.mem_append, cornersTo_mem p a i]
    constructor
    · rintro (h | h)
      · exact ⟨h.1, by omega, h.2.2⟩
      · split at h
        · rename_i hc
          obtain rfl := List.mem_singleton.1 h
          exact ⟨by omega, by omega, hc⟩
        · simp at h
    · rintro ⟨h0, h1, h2⟩
      by_cases e : a = (i : Int)
      · subst e; rw [if_pos h2]; exact .inr (by simp)
      · exact .inl ⟨h0, by omega, h2⟩
theorem cornersOf_mem (p : List Int) (a : Int) : decide (a ∈ cornersOf p) = isCorner p a := by
  unfold cornersOf isCorner
  cases h : isPartition p with
  | false => simp
  | true => rw [if_pos rfl, Bool.true_and, decide_eq_decide, cornersTo_mem]
theorem cornersTo_le (p : List Int) : ∀ i, (cornersTo p i).length ≤ i
  | 0 => Nat.le_refl _
  | i + 1 => by
    have := cornersTo_le p i
    simp only [cornersTo, List.length_append]
    split <;> simp <;> omega
theorem cornersOf_le (p : List Int) : (cornersOf p).length ≤ 9 := by
  unfold cornersOf
  split
  · rename_i h
    have := cornersTo_le p p.length
    have := (isPartition_bd h).2.1
    omega
  · simp
def boxOff (p : List Int) (a : Int) : List Int := if rd p a = 1 then p.take a.toNat else p.set a.toNat (rd p a - 1)
def removeBox (p : List Int) (a : Int) : List Int × Bool := if isCorner p a = true then (boxOff p a, true) else ([], false)
theorem isCorner_iff {p : List Int} {a : Int} : isCorner p a = true ↔ isPartition p = true ∧ 0 ≤ a ∧ a < (p.length : Int) ∧ at0 p (a + 1) < rd p a := by
  unfold isCorner
  rw [Bool.and_eq_true, decide_eq_true_eq]
def trimLen (l : List Int) : Nat → Nat
  | 0 => 0
  | k + 1 => if rd l (k : Int) = 0 then trimLen l k else k + 1
def trimZ (l : List Int) : List Int := l.take (trimLen l l.length)
theorem trimZ_boxOff {p : List Int} {a : Int} (h : isCorner p a = true) : trimZ (p.set a.toNat (rd p a - 1)) = boxOff p a := by
  obtain ⟨hp, h0, h1, h2⟩ := isCorner_iff.1 h
  obtain ⟨i, rfl⟩ : ∃ i : Nat, a = (i : Int) := ⟨a.toNat, by omega⟩
  have hb := (isPartition_bd hp).2.2
  have hi : i < p.length := by omega
  rw [Int.toNat_natCast]
  unfold trimZ boxOff
  rw [List.length_set, Int.toNat_natCast]
  have hrd : ∀ j : Nat, rd (p.set i (rd p (i : Int) - 1)) (j : Int) = if i = j then rd p (i : Int) - 1 else rd p (j : Int) := fun j => rd_set p i j _ hi
  by_cases e1 : rd p (i : Int) = 1
  · rw [if_pos e1]
    have hl : p.length = i + 1 := by
      by_cases hlt : i + 1 < p.length
      · have h3 := at0_nat p (i + 1) hlt
        rw [Int.natCast_add] at h3
        have := hb _ (rd_mem p (i + 1) hlt)
        rw [Int.natCast_add] at this
        rw [Int.natCast_one] at h3 this
        omega
      · omega
    rw [hl]
    simp only [trimLen]
    rw [hrd i, if_pos rfl, if_pos (by omega)]
    have hk : ∀ k, k ≤ i → trimLen (p.set i (rd p (i : Int) - 1)) k = k := by
      intro k hk
      cases k with
      | zero => rfl
      | succ k =>
        simp only [trimLen]
        rw [hrd k, if_neg (show ¬ i = k by omega)]
        have := hb _ (rd_mem p k (by omega))
        rw [if_neg (by omega)]
    rw [hk i (Nat.le_refl _), List.take_set_of_le (Nat.le_refl _)]
  · rw [if_neg e1]
    have hk : trimLen (p.set i (rd p (i : Int) - 1)) p.length = p.length := by
      obtain ⟨k, hk⟩ : ∃ k, p.length = k + 1 := ⟨p.length - 1, by omega⟩
      rw [hk]
      simp only [trimLen]
      rw [hrd k]
      split
      · rename_i e
        subst e
        have := hb _ (rd_mem p i hi)
        rw [if_neg (by omega)]
      · have := hb _ (rd_mem p k (by omega))
        rw [if_neg (by omega)]
    rw [hk, List.take_of_length_le (by simp)]
theorem boxOff_at {p : List Int} {a : Nat} (h : isCorner p (a : Int) = true) (j : Nat) : at0 (boxOff p (a : Int)) (j : Int) = at0 p (j : Int) - if j = a then 1 else 0 := by
  obtain ⟨hp, h0, h1, h2⟩ := isCorner_iff.1 h
  have hb := (isPartition_bd hp).2.2
  have hi : a < p.length := by omega
  unfold boxOff
  rw [Int.toNat_natCast]
  by_cases e1 : rd p (a : Int) = 1
  · rw [if_pos e1]
    have hl : p.length = a + 1 := by
      by_cases hlt : a + 1 < p.length
      · have h3 := at0_nat p (a + 1) hlt
        rw [Int.natCast_add] at h3
        have := hb _ (rd_mem p (a + 1) hlt)
        rw [Int.natCast_add] at this
        rw [Int.natCast_one] at h3 this
        omega
      · omega
    by_cases hj : j < a
    · rw [at0_nat _ j (by rw [List.length_take]; omega), at0_nat _ j (by omega), rd_nat, rd_nat, List.getD_eq_getElem?_getD, List.getD_eq_getElem?_getD, List.getElem?_take, if_pos hj, if_neg (by omega)]; omega
    · rw [at0_out _ j (by rw [List.length_take]; omega)]
      by_cases e : j = a
      · subst e; rw [at0_nat _ j hi, if_pos rfl]; omega
      · rw [at0_out _ j (by omega), if_neg e]; rfl
  · rw [if_neg e1]
    by_cases hj : j < p.length
    · rw [at0_nat _ j (by rw [List.length_set]; exact hj), at0_nat _ j hj, rd_set p a j _ hi]
      by_cases e : a = j
      · subst e; rw [if_pos rfl, if_pos rfl]
      · rw [if_neg e, if_neg (fun h => e h.symm)]; omega
    · rw [at0_out _ j (by rw [List.length_set]; omega), at0_out _ j (by omega), if_neg (by omega)]; rfl
theorem isum_set : ∀ (l : List Int) (i : Nat) (x : Int), i < l.length → isum (l.set i x) = isum l - rd l (i : Int) + x
  | [], i, x, h => by simp at h
  | y :: l, 0, x, _ => by
    have : rd (y :: l) ((0 : Nat) : Int) = y := rfl
    simp only [List.set_cons_zero, isum, this]; omega
  | y :: l, i + 1, x, h => by
    have h1 := isum_set l i x (by simpa using h)
    have h2 : rd (y :: l) ((i + 1 : Nat) : Int) = rd l (i : Int) := by rw [rd_nat, rd_nat]; rfl
    simp only [List.set_cons_succ, isum, h2, h1]; omega
theorem boxOff_part {p : List Int} {a : Int} (h : isCorner p a = true) : isPartition (boxOff p a) = true := by
  obtain ⟨hp, h0, h1, h2⟩ := isCorner_iff.1 h
  obtain ⟨i, rfl⟩ : ∃ i : Nat, a = (i : Int) := ⟨a.toNat, by omega⟩
  obtain ⟨g1, g2, g3⟩ := isPartition_iff.1 hp
  have hi : i < p.length := by omega
  have hx := g1 _ (rd_mem p i hi)
  unfold boxOff
  rw [Int.toNat_natCast]
  split
  · have e : isum p = isum (p.take i) + isum (p.drop i) := by rw [← isum_append, List.take_append_drop]
    have hd := isum_ge (l := p.drop i) (fun x hx => g1 x (List.mem_of_mem_drop hx))
    exact isPartition_iff.2 ⟨fun x hx => g1 x (List.mem_of_mem_take hx), g2.sublist (List.take_sublist i p), by omega⟩
  · have hs := isum_set p i (rd p (i : Int) - 1) hi
    refine isPartition_iff.2 ⟨fun x hx => ?_, ?_, by omega⟩
    · rcases List.mem_or_eq_of_mem_set hx with hx | rfl
      · exact g1 x hx
      · omega
    · rw [List.pairwise_iff_getElem]
      intro x y hx hy hxy
      rw [List.length_set] at hx hy
      have h3 := List.pairwise_iff_getElem.1 g2 x y hx hy hxy
      rw [List.getElem_set, List.getElem_set]
      split
      · rename_i e
        rw [if_neg (by omega)]
        have h4 : p[i] = rd p (i : Int) := (rd_eq p i hi).symm
        subst e
        omega
      · split
        · rename_i e
          subst e
          have h5 := isPartition_anti hp (i := i + 1) (j := y) (by omega)
          rw [at0_nat p y hy, rd_eq p y hy, Int.natCast_add, Int.natCast_one] at h5
          omega
        · exact h3
theorem boxOff_le (p : List Int) (a : Int) : (boxOff p a).length ≤ p.length := by
  unfold boxOff
  split
  · rw [List.length_take]; omega
  · rw [List.length_set]; omega
theorem impl_Corners_ev (p : List Int) (hl : p.length ≤ 1048576) : Ev (fun k => impl_Corners.f k p) (cornersOf p) := by
  unfold impl_Corners.f cornersOf
  refine Ev.bind (impl_IsPartition_ev p hl) (ev_ite (fun h1 => ?_) (fun h1 => ev_val (by rw [if_neg h1])))
  rw [if_pos h1]
  have key : ∀ i, i ≤ p.length → Ev (fun k => impl_Corners.l0 k p (cornersTo p i) p (p.length : Int) (i : Int)) (cornersTo p p.length) := by
    refine downTo p.length ?_ ?_
    · refine Ev.step (fun k => by rw [impl_Corners.l0]) ?_
      exact ev_neg (by omega) (ev_val rfl)
    · intro i hi ih
      have hc := cornersTo_le p i
      have e := ih
      simp only [cornersTo] at e
      refine Ev.step (fun k => by rw [impl_Corners.l0]) ?_
      refine ev_pos (by omega) (ev_pos (by omega) (ev_pos (by omega) ?_))
      rw [wrap_succ (by omega)]
      refine ev_bindc (impl_at_eq p _ hl) (ev_ite (fun h2 => ?_) (fun h2 => ?_))
      · refine ev_pos (by omega) ?_
        rw [if_pos (by rw [Int.natCast_add] at h2; exact h2)] at e
        exact e
      · rw [if_neg (by rw [Int.natCast_add] at h2; exact h2), List.append_nil] at e
        exact e
  exact key 0 (by omega)
theorem spec_Corners_ev (p : List Int) (hl : p.length ≤ 1048576) : Ev (fun k => spec_Corners.f k p) (cornersOf p) := by
  unfold spec_Corners.f cornersOf
  refine ev_bindc rfl (Ev.bind (spec_IsPartition_ev p hl) (ev_ite (fun h1 => ?_) (fun h1 => ev_val (by rw [if_neg h1]))))
  rw [if_pos h1]
  have key : ∀ i, i ≤ p.length → Ev (fun k => spec_Corners.l0 k p (cornersTo p i) (i : Int)) (cornersTo p p.length) := by
    refine downTo p.length ?_ ?_
    · refine Ev.step (fun k => by rw [spec_Corners.l0]) ?_
      exact ev_neg (by omega) (ev_val rfl)
    · intro i hi ih
      have hc := cornersTo_le p i
      have e := ih
      simp only [cornersTo] at e
      refine Ev.step (fun k => by rw [spec_Corners.l0]) ?_
      refine ev_pos (by omega) (ev_pos (by omega) ?_)
      rw [wrap_succ (by omega)]
      refine ev_bindc (spec_l2At_eq p _) (ev_ite (fun h2 => ?_) (fun h2 => ?_))
      · refine ev_pos (by omega) ?_
        rw [if_pos (by rw [Int.natCast_add] at h2; exact h2)] at e
        exact e
      · rw [if_neg (by rw [Int.natCast_add] at h2; exact h2), List.append_nil] at e
        exact e
  exact key 0 (by omega)
theorem spec_l10Has_ev (l : List Int) (x : Int) (hl : l.length ≤ 1048576) : Ev (fun k => spec_l10Has.f k l x) (decide (x ∈ l)) := by
  unfold spec_l10Has.f
  have key : ∀ i, i ≤ l.length → Ev (fun k => spec_l10Has.l0 k l x (i : Int)) (decide (x ∈ l.drop i)) := by
    refine downTo l.length ?_ ?_
    · refine Ev.step (fun k => by rw [spec_l10Has.l0]) ?_
      exact ev_neg (by omega) (ev_val (by simp))
    · intro i hi ih
      refine Ev.step (fun k => by rw [spec_l10Has.l0]) ?_
      refine ev_pos (by omega) (ev_pos (by omega) ?_)
      rw [drop_rd l i hi]
      refine ev_ite (fun h => ev_val (by rw [h]; simp)) (fun h => ?_)
      rw [wrap_succ (by omega)]
      refine ev_eq ih ?_
      rw [decide_eq_decide, List.mem_cons]
      exact ⟨fun g => .inr g, fun g => g.resolve_left (fun e => h e.symm)⟩
  have := key 0 (by omega)
  simpa using this
theorem spec_RemoveBox_ev (p : List Int) (a : Int) (hl : p.length ≤ 1048576) : Ev (fun k => spec_RemoveBox.f k p a) (removeBox p a) := by
  unfold spec_RemoveBox.f
  have hbad : ¬ isCorner p a = true → Ev (fun k => spec_RemoveBox.j0 k p a true) (removeBox p a) := by
    intro h
    refine Ev.step (fun k => by rw [spec_RemoveBox.j0]) ?_
    refine ev_pos rfl (ev_val ?_)
    unfold removeBox; rw [if_neg h]
  refine Ev.bind (spec_IsPartition_ev p hl) (ev_ite (fun h1 => ?_) (fun h1 => hbad (fun g => h1 (isCorner_iff.1 g).1)))
  refine ev_ite (fun h2 => hbad (fun g => by have := (isCorner_iff.1 g).2.1; omega)) (fun h2 => ?_)
  refine ev_ite (fun h3 => hbad (fun g => by have := (isCorner_iff.1 g).2.2.1; omega)) (fun h3 => ev_pos (by omega) (ev_pos (by omega) ?_))
  obtain ⟨i, rfl⟩ : ∃ i : Nat, a = (i : Int) := ⟨a.toNat, by omega⟩
  have hi : i < p.length := by omega
  have hb := isPartition_bd h1
  have hx := hb.2.2 _ (rd_mem p i hi)
  rw [wrap_succ (by omega)]
  refine ev_bindc (spec_l2At_eq p _) ?_
  by_cases h4 : isCorner p (i : Int) = true
  · obtain ⟨_, _, _, h5⟩ := isCorner_iff.1 h4
    rw [show (rd p (i : Int) == at0 p ((i + 1 : Nat) : Int)) = false by rw [beq_eq_false_iff_ne]; rw [Int.natCast_add]; intro e; rw [Int.natCast_one] at e; omega]
    refine Ev.step (fun k => by rw [spec_RemoveBox.j0]) ?_
    refine ev_neg (by decide) ?_
    have hbl := hb.2.1
    refine ev_bindc rfl (ev_pos (by simp; omega) (ev_bindc rfl (ev_pos (by omega) (ev_pos (by simp; omega) (ev_bindc rfl ?_)))))
    rw [List.nil_append, Int.toNat_natCast, wrap_id (by omega) (by omega), rd_set p i i _ hi, if_pos rfl]
    unfold removeBox
    rw [if_pos h4]
    unfold boxOff
    rw [Int.toNat_natCast]
    refine ev_ite (fun h6 => ev_pos (by omega) (ev_val ?_)) (fun h6 => ev_val ?_)
    · rw [if_pos (by omega), List.take_set_of_le (Nat.le_refl _)]
    · rw [if_neg (by omega)]
  · have hge : at0 p ((i : Int) + 1) = rd p (i : Int) := by
      have hle := isPartition_desc h1 i (by omega)
      have : ¬ at0 p ((i : Int) + 1) < rd p (i : Int) := fun g => h4 (isCorner_iff.2 ⟨h1, by omega, by omega, g⟩)
      omega
    rw [show (rd p (i : Int) == at0 p ((i + 1 : Nat) : Int)) = true by rw [beq_iff_eq, Int.natCast_add, Int.natCast_one]; omega]
    exact hbad h4
end Go.Proofs.Ytljjjdgnpnnmoaa.Q

set_option linter.unusedVariables false
set_option linter.unusedSimpArgs false
namespace Go.Proofs.Ytljjjdgnpnnmoaa.Q
open Go.RowKit Go.Proofs.Ytljjjdgnpnnmoaa.F Go.Proofs.YtljjjdgnpnnmoaaW.PrintWords Go.Proofs.YtljjjdgnpnnmoaaW.PrintLast Go.Proofs.YtljjjdgnpnnmoaaW.PrintMore
theorem isTab_cells {n : List Int} {m : List (List Int)} (h : isTab n m = true) : m.length ≤ 9 ∧ (∀ r ∈ m, r.length ≤ 9) ∧ ∀ x ∈ m.flatten, 1 ≤ x ∧ x ≤ 9 := by
  obtain ⟨hs, hc⟩ := isTab_iff.1 h
  obtain ⟨h1, _, h3, _, h5⟩ := hasShape_bd hs
  have hr : ∀ r ∈ m, r.length ≤ 9 := by
    intro r hr
    obtain ⟨i, hi, rfl⟩ := List.mem_iff_getElem.1 hr
    have := h5 i hi
    rw [rows_eq m i hi] at this
    have := at0_bd h1 (i : Int)
    omega
  refine ⟨h3, hr, ?_⟩
  intro x hx
  obtain ⟨r, hrm, hxr⟩ := List.mem_flatten.1 hx
  obtain ⟨i, hi, rfl⟩ := List.mem_iff_getElem.1 hrm
  obtain ⟨j, hj, rfl⟩ := List.mem_iff_getElem.1 hxr
  have := (hc i hi j (by rw [rows_eq m i hi]; exact hj)).1
  rw [rows_eq m i hi, rd_eq _ j hj] at this
  exact this
end Go.Proofs.Ytljjjdgnpnnmoaa.Q

set_option linter.unusedVariables false
set_option linter.unusedSimpArgs false
namespace Go.Proofs.Ytljjjdgnpnnmoaa.Q
open Go.RowKit Go.Proofs.Ytljjjdgnpnnmoaa.F Go.Proofs.YtljjjdgnpnnmoaaW.PrintWords Go.Proofs.YtljjjdgnpnnmoaaW.PrintLast Go.Proofs.YtljjjdgnpnnmoaaW.PrintMore
def inWalk : Nat → List (List Int) → Int → Int → List (List Int) × Int × Int
  | 0, G, i, c => (G, i, c)
  | f + 1, G, i, c => if cellOf G i (c + 1) = 0 ∧ cellOf G (i + 1) c = 0 then (G, i, c) else if cellOf G i (c + 1) = 0 ∨ (0 < cellOf G (i + 1) c ∧ cellOf G (i + 1) c ≤ cellOf G i (c + 1)) then inWalk f (setAt G i c (cellOf G (i + 1) c)) (i + 1) c else inWalk f (setAt G i c (cellOf G i (c + 1))) i (c + 1)
def cutRow (w : List (List Int) × Int × Int) : List (List Int) := w.1.set w.2.1.toNat ((rd_L1 w.1 w.2.1).take w.2.2.toNat)
def inFin (p : List Int) (w : List (List Int) × Int × Int) : List Int × List (List Int) × Int × Bool := (p, partRows p (cutRow w) 0, w.2.1, true)
def slideIntoT (n : List Int) (m : List (List Int)) (a : Int) : List Int × List (List Int) × Int × Bool :=
  if isTab n m = true ∧ isCorner n a = true then inFin (boxOff n a) (inWalk 100 (gridOf n m) a (rd n a - 1)) else ([], [], 0, false)
structure InInv (n p o : List Int) (a : Nat) (G : List (List Int)) (i c : Nat) : Prop where
  i1 : i < G.length
  c1 : c < (rd_L1 G (i : Int)).length
  ai : a ≤ i
  nn : NonNeg G
  len : G.length = o.length
  ol : o.length ≤ 9
  row : ∀ r : Nat, r < G.length → rd o (r : Int) = ((rd_L1 G (r : Int)).length : Int) ∧ 0 < (rd_L1 G (r : Int)).length ∧ (rd_L1 G (r : Int)).length ≤ 9 ∧ at0 p (r : Int) ≤ ((rd_L1 G (r : Int)).length : Int)
  pos : ∀ r q : Nat, r < G.length → q < (rd_L1 G (r : Int)).length → at0 p (r : Int) ≤ (q : Int) → ¬ (r = i ∧ q = c) → 0 < cellOf G (r : Int) (q : Int)
  hole : at0 p (i : Int) ≤ (c : Int) ∧ at0 p ((i : Int) + 1) ≤ (c : Int)
structure InPar (n p o : List Int) (a : Nat) : Prop where
  hn : isPartition n = true
  ho : isPartition o = true
  at_ : ∀ j : Nat, at0 p (j : Int) = at0 n (j : Int) - if j = a then 1 else 0
theorem InPar.anti {n p o : List Int} {a : Nat} (h : InPar n p o a) (i : Nat) (hi : a < i) : at0 p ((i : Int) + 1) ≤ at0 p (i : Int) := by
  have h1 := isPartition_anti h.hn (i := i) (j := i + 1) (by omega)
  have h2 := h.at_ i
  have h3 := h.at_ (i + 1)
  rw [if_neg (by omega)] at h2 h3
  rw [Int.natCast_add, Int.natCast_one] at h3 h1
  omega
theorem InInv.go {n p o : List Int} {a : Nat} {G : List (List Int)} {i c i' c' : Nat} (h : InInv n p o a G i c) {x : Int} (hx : 0 < x) (hi : i' < G.length) (hc : c' < (rd_L1 G (i' : Int)).length) (hai : a ≤ i') (hh : at0 p (i' : Int) ≤ (c' : Int) ∧ at0 p ((i' : Int) + 1) ≤ (c' : Int)) : InInv n p o a (setAt G (i : Int) (c : Int) x) i' c' := by
  refine ⟨by rw [setAt_length]; exact hi, by rw [setAt_len G i c i' x h.i1]; exact hc, hai, h.nn.set h.i1 h.c1 (by omega), by rw [setAt_length]; exact h.len, h.ol, fun r hr => ?_, fun r q hr hq hp hne => ?_, hh⟩
  · rw [setAt_length] at hr
    rw [setAt_len G i c r x h.i1]
    exact h.row r hr
  · rw [setAt_length] at hr
    rw [setAt_len G i c r x h.i1] at hq
    rw [cellOf_setAt G i c r q x h.i1 h.c1]
    split
    · exact hx
    · rename_i hne2
      exact h.pos r q hr hq hp hne2
theorem InInv.next {n p o : List Int} {a : Nat} {G : List (List Int)} {i c : Nat} (hP : InPar n p o a) (h : InInv n p o a G i c) (hz : ¬ (cellOf G (i : Int) ((c : Int) + 1) = 0 ∧ cellOf G ((i : Int) + 1) (c : Int) = 0)) :
    ((cellOf G (i : Int) ((c : Int) + 1) = 0 ∨ (0 < cellOf G ((i : Int) + 1) (c : Int) ∧ cellOf G ((i : Int) + 1) (c : Int) ≤ cellOf G (i : Int) ((c : Int) + 1))) ∧ 0 < cellOf G ((i : Int) + 1) (c : Int) ∧ i + 1 < G.length ∧ InInv n p o a (setAt G (i : Int) (c : Int) (cellOf G ((i : Int) + 1) (c : Int))) (i + 1) c) ∨
    (¬ (cellOf G (i : Int) ((c : Int) + 1) = 0 ∨ (0 < cellOf G ((i : Int) + 1) (c : Int) ∧ cellOf G ((i : Int) + 1) (c : Int) ≤ cellOf G (i : Int) ((c : Int) + 1))) ∧ 0 < cellOf G (i : Int) ((c : Int) + 1) ∧ c + 1 < (rd_L1 G (i : Int)).length ∧ InInv n p o a (setAt G (i : Int) (c : Int) (cellOf G (i : Int) ((c : Int) + 1))) i (c + 1)) := by
  have h1 := h.nn.cell (i : Int) ((c : Int) + 1)
  have h2 := h.nn.cell ((i : Int) + 1) (c : Int)
  by_cases hle : cellOf G (i : Int) ((c : Int) + 1) = 0 ∨ (0 < cellOf G ((i : Int) + 1) (c : Int) ∧ cellOf G ((i : Int) + 1) (c : Int) ≤ cellOf G (i : Int) ((c : Int) + 1))
  · have hd : 0 < cellOf G ((i : Int) + 1) (c : Int) := by omega
    refine .inl ⟨hle, hd, ?_⟩
    obtain ⟨x, y, hx, hy, g1, g2⟩ := cellOf_in (G := G) (i := (i : Int) + 1) (c := (c : Int)) (by omega)
    have e1 : x = i + 1 := by omega
    have e2 : y = c := by omega
    subst e1 e2
    have h3 := hP.anti (i + 1) (by have := h.ai; omega)
    have h4 := h.hole
    have e3 : ((i + 1 : Nat) : Int) = (i : Int) + 1 := by omega
    rw [e3] at h3
    exact ⟨g1, h.go hd g1 g2 (by have := h.ai; omega) ⟨by rw [e3]; exact h4.2, by rw [e3]; omega⟩⟩
  · have hr : 0 < cellOf G (i : Int) ((c : Int) + 1) := by omega
    refine .inr ⟨hle, hr, ?_⟩
    obtain ⟨x, y, hx, hy, g1, g2⟩ := cellOf_in (G := G) (i := (i : Int)) (c := (c : Int) + 1) (by omega)
    have e1 : x = i := by omega
    have e2 : y = c + 1 := by omega
    subst e1 e2
    have h4 := h.hole
    exact ⟨g2, h.go hr g1 g2 h.ai ⟨by omega, by omega⟩⟩
theorem InInv.corner {n p o : List Int} {a : Nat} {G : List (List Int)} {i c : Nat} (hP : InPar n p o a) (h : InInv n p o a G i c) (hz : cellOf G (i : Int) ((c : Int) + 1) = 0 ∧ cellOf G ((i : Int) + 1) (c : Int) = 0) :
    isCorner o (i : Int) = true ∧ rd o (i : Int) = (c : Int) + 1 ∧ (i + 1 < G.length → (rd_L1 G ((i + 1 : Nat) : Int)).length ≤ c) := by
  have hi := h.i1
  have hr := (h.row i hi).1
  have hc1 := h.c1
  have hlen : (rd_L1 G (i : Int)).length = c + 1 := by
    rcases Nat.lt_or_ge (c + 1) (rd_L1 G (i : Int)).length with hlt | hge
    · have := h.pos i (c + 1) hi hlt (by have := h.hole.1; omega) (by omega)
      rw [Int.natCast_add, Int.natCast_one] at this
      omega
    · omega
  have hdown : i + 1 < G.length → (rd_L1 G ((i + 1 : Nat) : Int)).length ≤ c := by
    intro hi2
    rcases Nat.lt_or_ge c (rd_L1 G ((i + 1 : Nat) : Int)).length with hlt | hge
    · have := h.pos (i + 1) c hi2 hlt (by have := h.hole.2; rw [Int.natCast_add, Int.natCast_one]; exact this) (by omega)
      rw [Int.natCast_add, Int.natCast_one] at this
      omega
    · exact hge
  have hil : i < o.length := by have := h.len; omega
  refine ⟨isCorner_iff.2 ⟨hP.ho, by omega, by omega, ?_⟩, by omega, hdown⟩
  by_cases hi2 : i + 1 < G.length
  · have h1 := (h.row (i + 1) hi2).1
    have h2 := hdown hi2
    have h3 := at0_nat o (i + 1) (by have := h.len; omega)
    rw [Int.natCast_add, Int.natCast_one] at h3 h1
    rw [Int.natCast_add, Int.natCast_one] at h2
    omega
  · rw [at0_out o _ (by have := h.len; omega)]; omega
theorem in_rows {n p o : List Int} {a : Nat} {G X : List (List Int)} {i c : Nat} (hP : InPar n p o a) (h : InInv n p o a G i c) (hX : Sq X G i c) (hz : cellOf G (i : Int) ((c : Int) + 1) = 0 ∧ cellOf G ((i : Int) + 1) (c : Int) = 0) (hp0 : ∀ r : Nat, 0 ≤ at0 p (r : Int)) :
    partRows p (cutRow (G, (i : Int), (c : Int))) 0 = readRows X p (boxOff o (i : Int)) := by
  obtain ⟨hco, hrd, hdown⟩ := h.corner hP hz
  have hi := h.i1
  have hlen := h.len
  have hol := h.ol
  unfold cutRow
  simp only [Int.toNat_natCast]
  by_cases hc : c = 0
  · subst hc
    have hlast : i + 1 = G.length := by
      rcases Nat.lt_or_ge (i + 1) G.length with hlt | hge
      · have h1 := hdown hlt
        have h2 := (h.row (i + 1) hlt).2.1
        omega
      · omega
    have e1 : G.set i ((rd_L1 G (i : Int)).take 0) = G.take i ++ [[]] := by
      rw [List.set_eq_take_append_cons_drop, if_pos hi, List.drop_of_length_le (by omega)]; simp
    have e2 : boxOff o (i : Int) = o.take i := by unfold boxOff; rw [if_pos (by omega), Int.toNat_natCast]
    rw [e1, partRows_snoc, e2]
    simp only [List.length_nil, if_true, List.append_nil]
    have hrt : ∀ r : Nat, r < i → rd_L1 (G.take i) (r : Int) = rd_L1 G (r : Int) := fun r hr => by
      rw [rows_nat, rows_nat, List.getD_eq_getElem?_getD, List.getD_eq_getElem?_getD, List.getElem?_take, if_pos hr]
    have hot : ∀ r : Nat, r < i → rd (o.take i) (r : Int) = rd o (r : Int) := fun r hr => by
      rw [rd_nat, rd_nat, List.getD_eq_getElem?_getD, List.getD_eq_getElem?_getD, List.getElem?_take, if_pos hr]
    have hil : (G.take i).length = i := by rw [List.length_take]; omega
    refine partRows_read X (G.take i) p (o.take i) (by rw [List.length_take, List.length_take]; omega) (fun r hr => ?_) hp0 (fun r q hr hq hq2 => ?_)
    · rw [hil] at hr
      rw [hrt r hr, hot r hr]
      have := h.row r (by omega)
      exact ⟨this.1, this.2.1⟩
    · rw [hil] at hr
      rw [hrt r hr] at hq2 ⊢
      have h9 := (h.row r (by omega)).2.2.1
      rw [hX.num r q (by omega) (by omega), if_neg (by omega), cellOf_nat, if_pos ⟨by omega, hq2⟩]
  · have e2 : boxOff o (i : Int) = o.set i (rd o (i : Int) - 1) := by unfold boxOff; rw [if_neg (by omega), Int.toNat_natCast]
    have hil : i < o.length := by omega
    have hrs : ∀ r : Nat, rd_L1 (G.set i ((rd_L1 G (i : Int)).take c)) (r : Int) = if i = r then (rd_L1 G (i : Int)).take c else rd_L1 G (r : Int) := fun r => rows_set G i r _ hi
    have hc1 := h.c1
    rw [e2]
    refine partRows_read X _ p _ (by rw [List.length_set, List.length_set]; omega) (fun r hr => ?_) hp0 (fun r q hr hq hq2 => ?_)
    · rw [List.length_set] at hr
      rw [hrs r, rd_set o i r _ hil]
      by_cases e : i = r
      · subst e
        rw [if_pos rfl, if_pos rfl, List.length_take]
        exact ⟨by omega, by omega⟩
      · rw [if_neg e, if_neg e]
        have := h.row r hr
        exact ⟨this.1, this.2.1⟩
    · rw [List.length_set] at hr
      have h9 := (h.row r hr).2.2.1
      rw [hrs r] at hq2 ⊢
      by_cases e : i = r
      · subst e
        rw [if_pos rfl] at hq2 ⊢
        rw [List.length_take] at hq2
        rw [hX.num i q (by omega) (by omega), if_neg (by omega), cellOf_nat, if_pos ⟨hi, by omega⟩, rd_nat, rd_nat, List.getD_eq_getElem?_getD, List.getD_eq_getElem?_getD, List.getElem?_take, if_pos (by omega)]
      · rw [if_neg e] at hq2 ⊢
        rw [hX.num r q (by omega) (by omega), if_neg (by omega), cellOf_nat, if_pos ⟨hr, hq2⟩]
set_option maxHeartbeats 8000000 in
theorem spec_in_ev (n p o n2 : List Int) (a : Nat) (hP : InPar n p o a) (hp : isPartition p = true) : ∀ (f : Nat) (G X : List (List Int)) (i c : Nat), InInv n p o a G i c → Sq X G i c → 18 < f + i + c →
    Ev (fun k => spec_l13Into.l0 k p X (i : Int) (c : Int) o n2) (p, partRows p (cutRow (inWalk f G (i : Int) (c : Int))) 0, (inWalk f G (i : Int) (c : Int)).2.1) := by
  intro f
  induction f with
  | zero =>
    intro G X i c h _ hf
    have h1 := h.i1; have h2 := h.len; have h3 := h.ol; have h4 := (h.row i h.i1).2.2.1; have h5 := h.c1
    omega
  | succ f ih =>
    intro G X i c h hX hf
    have hi9 := h.i1
    have hl := h.len
    have ho := h.ol
    have hc9 := (h.row i h.i1).2.2.1
    have hc1 := h.c1
    have hXl := hX.len
    have hXi := hX.row i (by omega)
    have hXd := hX.row (i + 1) (by omega)
    have ER : Aside0 (cellOf G (i : Int) ((c : Int) + 1) = rd (rd_L1 X (i : Int)) ((c + 1 : Nat) : Int)) := ⟨by
      rw [hX.num i (c + 1) (by omega) (by omega), if_neg (by omega), Int.natCast_add, Int.natCast_one]⟩
    have ED : Aside0 (cellOf G ((i : Int) + 1) (c : Int) = rd (rd_L1 X ((i + 1 : Nat) : Int)) (c : Int)) := ⟨by
      rw [hX.num (i + 1) c (by omega) (by omega), if_neg (by omega), Int.natCast_add, Int.natCast_one]⟩
    have n1 := h.nn.cell (i : Int) ((c : Int) + 1)
    have n2_ := h.nn.cell ((i : Int) + 1) (c : Int)
    have W1 : Aside0 (wrap64 ((c : Int) + 1) = ((c + 1 : Nat) : Int)) := ⟨wrap_succ (by omega)⟩
    have W2 : Aside0 (wrap64 ((i : Int) + 1) = ((i + 1 : Nat) : Int)) := ⟨wrap_succ (by omega)⟩
    have key : ∀ b : Bool, b = decide (¬ (cellOf G (i : Int) ((c : Int) + 1) = 0 ∧ cellOf G ((i : Int) + 1) (c : Int) = 0)) → Ev (fun k => spec_l13Into.j1 k p X (i : Int) (c : Int) b o n2) (p, partRows p (cutRow (inWalk (f + 1) G (i : Int) (c : Int))) 0, (inWalk (f + 1) G (i : Int) (c : Int)).2.1) := by
      rintro b rfl
      refine Ev.step (fun k => by rw [spec_l13Into.j1]) ?_
      by_cases hz : cellOf G (i : Int) ((c : Int) + 1) = 0 ∧ cellOf G ((i : Int) + 1) (c : Int) = 0
      · rw [decide_eq_false (by simpa using hz)]
        have ew : inWalk (f + 1) G (i : Int) (c : Int) = (G, (i : Int), (c : Int)) := by simp only [inWalk]; rw [if_pos hz]
        rw [ew]
        obtain ⟨hco, hrd, _⟩ := h.corner hP hz
        have hp0 : ∀ r : Nat, 0 ≤ at0 p (r : Int) := fun r => (at0_bd hp (r : Int)).1
        have e9 := in_rows hP h hX hz hp0
        have hrb : removeBox o (i : Int) = (boxOff o (i : Int), true) := by unfold removeBox; rw [if_pos hco]
        have hol := boxOff_le o (i : Int)
        refine ev_neg (by decide) (Ev.bind (ev_eq (spec_RemoveBox_ev o (i : Int) (by omega)) hrb) ?_)
        refine Ev.bind (spec_l13Tableau_ev X p (boxOff o (i : Int)) hp hXl hX.row (by omega) (fun x hx => ?_)) (ev_val (by rw [e9]))
        obtain ⟨j, hj, rfl⟩ := List.mem_iff_getElem.1 hx
        have h1 := boxOff_at hco j
        rw [at0_nat _ j hj, rd_eq _ j hj] at h1
        have h2 := at0_bd hP.ho (j : Int)
        split at h1 <;> omega
      · rw [decide_eq_true hz]
        refine ev_pos rfl (ev_pos (by omega) (ev_pos (by omega) ?_))
        rw [W1.out, W2.out]
        refine ev_pos (by omega) (ev_pos (by omega) (ev_pos (by omega) (ev_pos (by omega) (ev_pos (by omega) (ev_pos (by omega) ?_)))))
        rw [← ER.out, ← ED.out]
        rcases h.next hP hz with ⟨hcd, hd, hi2, hI⟩ | ⟨hcd, hr, hc2, hI⟩
        · have hS := hX.move (i' := i + 1) (c' := c) h.i1 h.c1 ⟨by omega, by omega, by omega, by omega⟩ (by omega) (cellOf G ((i : Int) + 1) (c : Int))
          have := ih _ _ _ _ hI hS (by omega)
          have ew : inWalk (f + 1) G (i : Int) (c : Int) = inWalk f (setAt G (i : Int) (c : Int) (cellOf G ((i : Int) + 1) (c : Int))) ((i + 1 : Nat) : Int) (c : Int) := by
            simp only [inWalk]; rw [if_neg hz, if_pos hcd, Int.natCast_add, Int.natCast_one]
          rw [ew]
          have l2 := setAt_len X i c (i + 1) (cellOf G ((i : Int) + 1) (c : Int)) (by omega)
          refine ev_pos hd ?_
          by_cases h0 : cellOf G (i : Int) ((c : Int) + 1) = 0
          · exact ev_pos h0 (ev_pos (by omega) (ev_bindc (b := setAt X (i : Int) (c : Int) (cellOf G ((i : Int) + 1) (c : Int))) rfl (ev_pos (by omega) this)))
          · exact ev_neg h0 (ev_pos (by omega) (ev_pos (by omega) (ev_bindc (b := setAt X (i : Int) (c : Int) (cellOf G ((i : Int) + 1) (c : Int))) rfl (ev_pos (by omega) this))))
        · have hS := hX.move (i' := i) (c' := c + 1) h.i1 h.c1 ⟨by omega, by omega, by omega, by omega⟩ (by omega) (cellOf G (i : Int) ((c : Int) + 1))
          have := ih _ _ _ _ hI hS (by omega)
          have ew : inWalk (f + 1) G (i : Int) (c : Int) = inWalk f (setAt G (i : Int) (c : Int) (cellOf G (i : Int) ((c : Int) + 1))) (i : Int) ((c + 1 : Nat) : Int) := by
            simp only [inWalk]; rw [if_neg hz, if_neg hcd, Int.natCast_add, Int.natCast_one]
          rw [ew]
          have l2 := setAt_len X i c i (cellOf G (i : Int) ((c : Int) + 1)) (by omega)
          by_cases h0 : 0 < cellOf G ((i : Int) + 1) (c : Int)
          · exact ev_pos h0 (ev_neg (by omega) (ev_neg (by omega) (ev_pos (by omega) (ev_bindc (b := setAt X (i : Int) (c : Int) (cellOf G (i : Int) ((c : Int) + 1))) rfl (ev_pos (by omega) this)))))
          · exact ev_neg h0 (ev_pos (by omega) (ev_bindc (b := setAt X (i : Int) (c : Int) (cellOf G (i : Int) ((c : Int) + 1))) rfl (ev_pos (by omega) this)))
    refine Ev.step (fun k => by rw [spec_l13Into.l0]) ?_
    refine ev_pos (by omega) (ev_pos (by omega) ?_)
    rw [W1.out, W2.out]
    refine ev_pos (by omega) (ev_pos (by omega) ?_)
    rw [← ER.out]
    refine ev_ite (fun h0 => key true ?_) (fun h0 => ev_pos (by omega) (ev_pos (by omega) (ev_pos (by omega) (ev_pos (by omega) ?_))))
    · rw [decide_eq_true (by omega)]
    · rw [← ED.out]
      refine key _ ?_
      rw [decide_eq_decide]
      omega
theorem entry_nonneg {n : List Int} {m : List (List Int)} (ht : isTab n m = true) (r q : Nat) : 0 ≤ entryOf n m (r : Int) (q : Int) := by
  obtain ⟨hs, hcell⟩ := isTab_iff.1 ht
  have hb := at0_bd (hasShape_bd hs).1 (r : Int)
  unfold entryOf
  split
  · by_cases hq : 0 ≤ (q : Int) - at0 n (r : Int) ∧ (q : Int) - at0 n (r : Int) < ((rd_L1 m (r : Int)).length : Int)
    · obtain ⟨j, hj⟩ : ∃ j : Nat, (q : Int) - at0 n (r : Int) = (j : Int) := ⟨((q : Int) - at0 n (r : Int)).toNat, by omega⟩
      rw [hj, at0_nat _ j (by omega)]
      have := (hcell r (by omega) j (by omega)).1
      omega
    · rw [at0_out _ _ (by omega)]; exact Int.le_refl _
  · exact Int.le_refl _
theorem in_start {n : List Int} {m : List (List Int)} {a : Int} (ht : isTab n m = true) (hc : isCorner n a = true) : ∃ (i c : Nat), a = (i : Int) ∧ rd n a - 1 = (c : Int) ∧ InPar n (boxOff n a) (outerOf n m) i ∧ isPartition (boxOff n a) = true ∧ InInv n (boxOff n a) (outerOf n m) i (gridOf n m) i c ∧ Sq (squareOf n m) (gridOf n m) i c ∧ i < n.length := by
  obtain ⟨hs, hcell⟩ := isTab_iff.1 ht
  obtain ⟨hn, hnm, hm9, ho, hreach⟩ := hasShape_bd hs
  obtain ⟨_, h0, h1, h2⟩ := isCorner_iff.1 hc
  obtain ⟨i, rfl⟩ : ∃ i : Nat, a = (i : Int) := ⟨a.toNat, by omega⟩
  have hin : i < n.length := by omega
  have hx := (isPartition_bd hn).2.2 _ (rd_mem n i hin)
  have hni : at0 n (i : Int) = rd n (i : Int) := at0_nat n i hin
  have hb : ∀ j : Nat, at0 (boxOff n (i : Int)) (j : Int) = at0 n (j : Int) - if j = i then 1 else 0 := fun j => boxOff_at hc j
  have hpp := boxOff_part hc
  have hP : InPar n (boxOff n (i : Int)) (outerOf n m) i := ⟨hn, ho, hb⟩
  have hrow : ∀ r : Nat, r < m.length → ((rd_L1 (gridOf n m) (r : Int)).length : Int) = reachOf n m r := fun r hr => by rw [gridOf_row n m r hr]; exact gridRow_length hn m r
  have hri := hrow i (by omega)
  have hre := hreach i (by omega)
  unfold reachOf at hri
  refine ⟨i, (rd n (i : Int) - 1).toNat, rfl, by omega, hP, hpp, ⟨by rw [gridOf_length]; omega, by omega, Nat.le_refl _, ?_, by rw [gridOf_length, outerOf_length], by rw [outerOf_length]; exact hm9, fun r hr => ?_, fun r q hr hq hpq hne => ?_, ?_⟩, ⟨by simp [squareOf], fun r hr => (square_at n m r 0 hr (by omega)).1, fun r q hr hq => ?_⟩, hin⟩
  · intro r q
    rw [cellOf_grid hn m _ _ (by omega)]
    exact entry_nonneg ht r q
  · rw [gridOf_length] at hr
    have h3 := hreach r hr
    have h4 := hrow r hr
    have h5 := hb r
    have h6 := at0_bd hn (r : Int)
    unfold reachOf at h4
    rw [outerOf_rd n m r hr]
    refine ⟨by omega, by omega, by omega, ?_⟩
    split at h5 <;> omega
  · rw [gridOf_length] at hr
    have h4 := hrow r hr
    have h5 := hb r
    have h6 := at0_bd hn (r : Int)
    unfold reachOf at h4
    rw [cellOf_grid hn m _ _ (by omega)]
    unfold entryOf
    rw [if_pos (by omega)]
    have hge : at0 n (r : Int) ≤ (q : Int) := by
      by_cases e : r = i
      · subst e
        rw [if_pos rfl] at h5
        have : ¬ q = (rd n (r : Int) - 1).toNat := fun e2 => hne ⟨rfl, e2⟩
        omega
      · rw [if_neg e] at h5; omega
    obtain ⟨j, hj⟩ : ∃ j : Nat, (q : Int) - at0 n (r : Int) = (j : Int) := ⟨((q : Int) - at0 n (r : Int)).toNat, by omega⟩
    rw [hj, at0_nat _ j (by omega)]
    have := (hcell r hr j (by omega)).1
    omega
  · have h5 := hb i
    have h6 := hb (i + 1)
    rw [if_pos rfl] at h5
    rw [if_neg (by omega), Int.natCast_add, Int.natCast_one] at h6
    constructor <;> omega
  · rw [(square_at n m r q hr hq).2, cellOf_grid hn m _ _ (by omega)]
    split
    · rename_i e
      obtain ⟨rfl, rfl⟩ := e
      unfold entryOf
      rw [if_pos (by omega), at0_out _ _ (by omega)]
    · rfl
theorem spec_SlideInto_ev (n : List Int) (m : List (List Int)) (a : Int) (hl : n.length ≤ 1048576) (hm : m.length ≤ 1048576) (hr : ∀ r ∈ m, r.length ≤ 1048576) : Ev (fun k => spec_SlideInto.f k n m a) (slideIntoT n m a) := by
  unfold spec_SlideInto.f slideIntoT
  refine Ev.bind (spec_IsTableau_ev n m hl hm hr) (ev_ite (fun h1 => ?_) (fun h1 => ev_val (by rw [if_neg (fun g => h1 g.1)])))
  refine Ev.bind (spec_Corners_ev n hl) (Ev.bind (spec_l10Has_ev (cornersOf n) a (by have := cornersOf_le n; omega)) ?_)
  rw [cornersOf_mem]
  refine ev_ite (fun h2 => ?_) (fun h2 => ev_val (by rw [if_neg (fun g => h2 g.2)]))
  rw [if_pos ⟨h1, h2⟩]
  obtain ⟨i, c, rfl, hc, hP, hpp, hI, hS, hin⟩ := in_start h1 h2
  have hsh : shapeOf n m = (outerOf n m, n, true) := by unfold shapeOf; rw [if_pos (isTab_iff.1 h1).1]
  have hrb : removeBox n (i : Int) = (boxOff n (i : Int), true) := by unfold removeBox; rw [if_pos h2]
  have hx := (isPartition_bd hP.hn).2.2 _ (rd_mem n i hin)
  refine Ev.bind (a := (boxOff n (i : Int), partRows (boxOff n (i : Int)) (cutRow (inWalk 100 (gridOf n m) (i : Int) (c : Int))) 0, (inWalk 100 (gridOf n m) (i : Int) (c : Int)).2.1)) ?_ (ev_val (by rw [hc]; rfl))
  unfold spec_l13Into.f
  refine Ev.bind (ev_eq (spec_ShapeOf_ev n m hl hm hr) hsh) (Ev.bind (ev_eq (spec_RemoveBox_ev n (i : Int) hl) hrb) (Ev.bind (spec_grid_ev n m hP.hn) (ev_pos (by omega) (ev_pos (by omega) ?_))))
  rw [wrap_id (by omega) (by omega), hc]
  exact spec_in_ev n _ _ n i hP hpp 100 _ _ i c hI hS (by omega)
theorem inWalk_inv {n p o : List Int} {a : Nat} (hP : InPar n p o a) : ∀ (f : Nat) (G : List (List Int)) (i c : Nat), InInv n p o a G i c → ∃ (G' : List (List Int)) (i' c' : Nat), inWalk f G (i : Int) (c : Int) = (G', (i' : Int), (c' : Int)) ∧ InInv n p o a G' i' c'
  | 0, G, i, c, h => ⟨G, i, c, rfl, h⟩
  | f + 1, G, i, c, h => by
    simp only [inWalk]
    by_cases hz : cellOf G (i : Int) ((c : Int) + 1) = 0 ∧ cellOf G ((i : Int) + 1) (c : Int) = 0
    · rw [if_pos hz]; exact ⟨G, i, c, rfl, h⟩
    · rw [if_neg hz]
      rcases h.next hP hz with ⟨hle, _, _, hI⟩ | ⟨hlt, _, _, hI⟩
      · rw [if_pos hle]
        have := inWalk_inv hP f _ _ _ hI
        rwa [Int.natCast_add, Int.natCast_one] at this
      · rw [if_neg hlt]
        have := inWalk_inv hP f _ _ _ hI
        rwa [Int.natCast_add, Int.natCast_one] at this
theorem bulk_allI (b : Nat) : ∀ (M : List (List Int)), (∀ r ∈ M, r.length ≤ b) → bulk M ≤ b * M.length
  | [], _ => by simp [bulk]
  | r :: M, h => by
    have h1 := h r (by simp)
    have h2 := bulk_allI b M (fun s hs => h s (by simp [hs]))
    rw [bulk, List.length_cons, Nat.mul_add]
    omega
theorem slideIntoT_bd (n : List Int) (m : List (List Int)) (a : Int) : (slideIntoT n m a).1.length ≤ 9 ∧ (slideIntoT n m a).2.1.length ≤ 9 ∧ bulk (slideIntoT n m a).2.1 ≤ 81 := by
  unfold slideIntoT
  split
  · rename_i h
    obtain ⟨i, c, rfl, hc, hP, hpp, hI, _, _⟩ := in_start h.1 h.2
    rw [hc]
    obtain ⟨G, i', c', hw, hI'⟩ := inWalk_inv hP 100 _ i c hI
    rw [hw]
    unfold inFin cutRow
    have h9 : ∀ r ∈ G, r.length ≤ 9 := by
      intro r hr
      obtain ⟨j, hj, rfl⟩ := List.mem_iff_getElem.1 hr
      have := (hI'.row j hj).2.2.1
      rwa [rows_eq G j hj] at this
    have h9' : ∀ r ∈ G.set i' ((rd_L1 G (i' : Int)).take c'), r.length ≤ 9 := by
      intro r hr
      rcases List.mem_or_eq_of_mem_set hr with h1 | rfl
      · exact h9 r h1
      · have := (hI'.row i' hI'.i1).2.2.1
        rw [List.length_take]; omega
    obtain ⟨p1, p2⟩ := partRows_bd (boxOff n (i : Int)) 9 _ 0 h9'
    rw [List.length_set] at p1
    have hl := hI'.len
    have ho := hI'.ol
    have := bulk_allI 9 _ p2
    have hq := (isPartition_bd hpp).2.1
    simp only [Int.toNat_natCast]
    exact ⟨hq, by omega, by omega⟩
  · exact ⟨by simp, by simp, by simp [bulk]⟩
end Go.Proofs.Ytljjjdgnpnnmoaa.Q

set_option linter.unusedVariables false
set_option linter.unusedSimpArgs false
namespace Go.Proofs.Ytljjjdgnpnnmoaa.Q
open Go.RowKit Go.Proofs.Ytljjjdgnpnnmoaa.F Go.Proofs.YtljjjdgnpnnmoaaW.PrintWords Go.Proofs.YtljjjdgnpnnmoaaW.PrintLast Go.Proofs.YtljjjdgnpnnmoaaW.PrintMore
theorem slices_Index_l0 (l : List Int) (x : Int) (hl : l.length ≤ 1048576) : ∀ i, i ≤ l.length → ∃ v, Ev (fun k => slices_Index_int_int.l0 k l x (l.length : Int) (i : Int)) v ∧ (0 ≤ v ↔ x ∈ l.drop i) := by
  refine downTo l.length ?_ ?_
  · refine ⟨-1, ?_, by simp⟩
    refine Ev.step (fun k => by rw [slices_Index_int_int.l0]) ?_
    exact ev_neg (by omega) (ev_val rfl)
  · rintro i hi ⟨v, hv, hm⟩
    by_cases hx : x = rd l (i : Int)
    · refine ⟨(i : Int), ?_, by rw [drop_rd l i hi, ← hx]; simp⟩
      refine Ev.step (fun k => by rw [slices_Index_int_int.l0]) ?_
      exact ev_pos (by omega) (ev_pos (by omega) (ev_pos (by omega) (ev_pos hx (ev_val rfl))))
    · refine ⟨v, ?_, by rw [hm, drop_rd l i hi, List.mem_cons]; simp [hx]⟩
      refine Ev.step (fun k => by rw [slices_Index_int_int.l0]) ?_
      refine ev_pos (by omega) (ev_pos (by omega) (ev_pos (by omega) (ev_neg hx ?_)))
      rw [wrap_succ (by omega)]; exact hv
theorem slices_Contains_ev (l : List Int) (x : Int) (hl : l.length ≤ 1048576) : Ev (fun k => slices_Contains_int_int.f k l x) (decide (x ∈ l)) := by
  unfold slices_Contains_int_int.f
  obtain ⟨v, hv, hm⟩ := slices_Index_l0 l x hl 0 (by omega)
  refine Ev.bind (f := fun _ t => some (decide (t ≥ 0))) hv (ev_val ?_)
  rw [List.drop_zero] at hm
  by_cases h : x ∈ l
  · rw [decide_eq_true h, decide_eq_true (hm.2 h)]
  · rw [decide_eq_false h, decide_eq_false (fun h' => h (hm.1 h'))]
end Go.Proofs.Ytljjjdgnpnnmoaa.Q

set_option linter.unusedVariables false
set_option linter.unusedSimpArgs false
namespace Go.Proofs.Ytljjjdgnpnnmoaa.Q
open Go.RowKit Go.Proofs.Ytljjjdgnpnnmoaa.F Go.Proofs.YtljjjdgnpnnmoaaW.PrintWords Go.Proofs.YtljjjdgnpnnmoaaW.PrintLast Go.Proofs.YtljjjdgnpnnmoaaW.PrintMore
theorem clip_calls (A : Option Addr) (n c : Nat) (hc : n ≤ c) (w : World) : Calls Try.prog 99 #[.slice A n c] w fun e w' => e = .returned (.slice A n n) ∧ w = w' := by
  go_enter Try.func99, Try.ntmps99
  have h0 : (0 : Int) ≤ (n : Int) := by omega
  have h1 : (n : Int) ≤ (c : Int) := by omega
  go_wp2
  go_ret
  exact ⟨by simp, rfl⟩
theorem trimLen_self (l : List Int) (k : Nat) (h : k = 0 ∨ rd l ((k - 1 : Nat) : Int) ≠ 0) : trimLen l k = k := by
  cases k with
  | zero => rfl
  | succ k =>
    simp only [trimLen]
    rcases h with h | h
    · omega
    · rw [Nat.add_sub_cancel] at h
      rw [if_neg h]
set_option maxHeartbeats 4000000 in
set_option maxRecDepth 100000 in
theorem trimmed_calls {w0 W : World} {ok : Nat → Prop} {v : Value} {xs : List Int} (hR : Kd.R (Kd.int .i64) 3 W w0.heap.size ok v xs) (hl : xs.length ≤ 1048576) :
    Calls Try.prog 83 #[v] W fun e W' => ∃ v', e = .returned v' ∧ LR 3 W w0.heap.size ok v' (trimZ xs) ∧ W = W' := by
  obtain ⟨A, c, rfl⟩ := Kd.R_slice hR
  have hcc := (Kd.R_reads' hR).2.1
  have HR := Aside0.mk hR
  clear hR
  go_enter Try.func83, Try.ntmps83
  go_wp2
  go_loopg [0] xs.length (fun kq v0 wr => ∃ k : Nat, k ≤ xs.length ∧ k ≤ kq ∧ v0 = .slice A k c ∧ Aside0 (trimLen xs xs.length = trimLen xs k) ∧ W = wr)
  case atStart => exact ⟨xs.length, Nat.le_refl _, by omega, rfl, ⟨rfl⟩, rfl⟩
  case round =>
    obtain ⟨k, hk, hg, rfl, HT, rfl⟩ := hrel
    have hkc : k ≤ c := by omega
    by_cases h0 : 0 < k
    · have h0z : (0 : Int) < (k : Int) := by omega
      obtain ⟨ad, hA, hcell⟩ := Kd.at_int (Kd.R_reads' HR.out).2.2 ((k - 1 : Nat) : Int) (by omega) (by omega)
      subst hA
      rw [Int.toNat_natCast] at hcell
      obtain ⟨x, hx⟩ : ∃ x, x = rd xs ((k - 1 : Nat) : Int) := ⟨_, rfl⟩
      rw [← hx] at hcell
      have HX := Aside0.mk hx
      have e1 : (k : Int) - 1 = ((k - 1 : Nat) : Int) := by omega
      have hkz : (0 : Int) ≤ (k : Int) - 1 := by omega
      have hkz2 : (k : Int) - 1 < (k : Int) := by omega
      have hkt : ((k : Int) - 1).toNat = k - 1 := by omega
      clear hx
      by_cases hx0 : x = 0
      · have hb : (x == 0) = true := beq_iff_eq.mpr hx0
        have HT2 : Aside0 (trimLen xs xs.length = trimLen xs (k - 1)) := ⟨by
          rw [HT.out]
          obtain ⟨q, rfl⟩ : ∃ q, k = q + 1 := ⟨k - 1, by omega⟩
          simp only [trimLen, Nat.add_sub_cancel]
          rw [if_pos (by have := HX.out; rw [Nat.add_sub_cancel] at this; rw [← this]; exact hx0)]⟩
        clear hx0 e1
        go_wp2
        go_roundg (k - 1)
        case measure => omega
        case rel => exact ⟨k - 1, by omega, by omega, by first | rfl | (simp; done) | (simp; omega), HT2, rfl⟩
      · have hb : (x == 0) = false := beq_eq_false_iff_ne.mpr hx0
        have HT2 : Aside0 (trimLen xs xs.length = k) := ⟨by rw [HT.out]; exact trimLen_self xs k (.inr (by rw [← HX.out]; exact hx0))⟩
        clear hx0 e1
        go_wp2_with (go_at_call 99; refine (clip_calls _ k c hkc _).mono ?_; rintro e w2 ⟨rfl, rfl⟩)
        go_ret
        refine ⟨_, rfl, ?_, rfl⟩
        have h1 := LR_clip (R_LR (Kd.R_take HR.out (m := k) hk))
        unfold trimZ
        rw [HT2.out]
        exact h1
    · have hk0 : k = 0 := by omega
      subst hk0
      have HT2 : Aside0 (trimLen xs xs.length = 0) := ⟨by rw [HT.out]; rfl⟩
      go_wp2_with (go_at_call 99; refine (clip_calls _ 0 c hkc _).mono ?_; rintro e w2 ⟨rfl, rfl⟩)
      go_ret
      refine ⟨_, rfl, ?_, rfl⟩
      have h1 := LR_clip (R_LR (Kd.R_take HR.out (m := 0) hk))
      unfold trimZ
      rw [HT2.out]
      exact h1
section
variable {w W : World} {L : List Ob} {v : Value} {p : List Int}
theorem corners_st (h : St w W L) (hr : Reads (Kd.int .i64) W v p) (hl : p.length ≤ 1048576) {C : List Int} (hC : cornersOf p = C) :
    Calls Try.prog 47 #[v] W fun e W' => ∃ u ok, e = .returned u ∧ St w W' (obR (Kd.int .i64) 3 w ok u C :: L) := by
  obtain ⟨A, c, rfl, hc, hCC⟩ := hr
  obtain ⟨K, hK⟩ := ev_eq (impl_Corners_ev p hl) hC
  refine (impl_Corners.calls K A c p C W hCC hc (hK K (Nat.le_refl _))).mono ?_
  rintro e W' ⟨u, rfl, hR, hB⟩
  obtain ⟨ok, h1⟩ := h.addR hB hR
  exact ⟨u, ok, rfl, h1⟩
theorem contains_st (h : St w W L) (hr : Reads (Kd.int .i64) W v p) (hl : p.length ≤ 1048576) (x : Int) {b : Bool} (hb : decide (x ∈ p) = b) :
    Calls Try.prog 46 #[v, .int .i64 x] W fun e W' => e = .returned (.bool b) ∧ St w W' L := by
  obtain ⟨A, c, rfl, hc, hCC⟩ := hr
  obtain ⟨K, hK⟩ := ev_eq (slices_Contains_ev p x hl) hb
  refine (slices_Contains_int_int.calls K A c p x b W hCC hc (hK K (Nat.le_refl _))).mono ?_
  rintro e W' ⟨rfl, hd⟩
  exact ⟨rfl, h.drawn hd⟩
end
set_option maxHeartbeats 4000000 in
set_option maxRecDepth 100000 in
theorem removeBox_calls (A : Option Addr) (c : Nat) (p : List Int) (a : Int) (w : World) (hr : Kd.C (Kd.int .i64) w A p.length p) (hc : p.length ≤ c) (hl : p.length ≤ 1048576) (hb : isCorner p a = true) :
    Calls Try.prog 48 #[.slice A p.length c, .int .i64 a] w fun e w' => ∃ u, e = .returned (.tuple #[u, .bool true]) ∧ LR 3 w' w.heap.size (fun _ => True) u (boxOff p a) ∧ Below w.heap.size w w' := by
  have C0 := Aside0.mk hr
  have H0 := Aside0.mk (St.start w)
  obtain ⟨hpp, h0, h1, h2⟩ := isCorner_iff.1 hb
  obtain ⟨i, rfl⟩ : ∃ i : Nat, a = (i : Int) := ⟨a.toNat, by omega⟩
  have hi : i < p.length := by omega
  have hx := (isPartition_bd hpp).2.2 _ (rd_mem p i hi)
  have hcl := cornersOf_le p
  obtain ⟨C, hC⟩ : ∃ C, cornersOf p = C := ⟨_, rfl⟩
  have hmem : decide ((i : Int) ∈ C) = true := by rw [← hC, cornersOf_mem, hb]
  rw [hC] at hcl
  have HC := Aside0.mk hC
  have HM := Aside0.mk hmem
  have HB := Aside0.mk hb
  obtain ⟨x, hxe⟩ : ∃ x, x = rd p (i : Int) := ⟨_, rfl⟩
  rw [← hxe] at hx
  have HX := Aside0.mk hxe
  have hlz : p.length < 17592186044416 := by omega
  clear hr hb hpp h2 hC hmem hxe
  go_enter Try.func48, Try.ntmps48
  go_wp2_with (first
    | (go_at_call 47; (with_reducible refine (corners_st H0.out (H0.out.came C0.out hc) hl HC.out).mono ?_); rintro e w1 ⟨u1, ok1, rfl, h_⟩; have H1 := Aside0.mk h_; clear h_; obtain ⟨A1, c1, rfl, _, _⟩ := H1.out.readR 0 rfl)
    | (go_at_call 46; (with_reducible refine (contains_st H1.out (H1.out.readR 0 rfl) (by omega) (i : Int) HM.out).mono ?_); rintro e w2 ⟨rfl, h_⟩; have H2 := Aside0.mk h_; clear h_)
    | (go_at_call 82; (with_reducible refine (clone_st H2.out (H2.out.came C0.out hc) hlz).mono ?_); rintro e w3 ⟨u3, ok3, rfl, h_⟩; have H3 := Aside0.mk h_; clear h_; obtain ⟨A3, c3, e3, _, _⟩ := H3.out.readR 0 rfl; subst e3; obtain ⟨g, q3, e4, hgb, _, _⟩ := Kd.R_form (H3.out.get 0 rfl) (by omega); injection e4 with ea e5_ e6_; clear e5_ e6_; subst ea; obtain ⟨hy, hz⟩ := Kd.R_celln 0 (H3.out.get 0 rfl) (i : Int) (by omega) (by omega); rw [Int.toNat_natCast] at hy hz; have hy2 : w3.cell? ⟨g, i, none⟩ = some (.int .i64 x) := by { rw [HX.out]; exact hy }; clear hy; have HP := Aside0.mk (Kd.R_putg (H3.out.get 0 rfl) (i : Int) (x - 1)); have HGB := Aside0.mk hgb; clear hgb; have hiz : (i : Int) < (p.length : Int) := by omega)
    | (go_at_call 83; refine (trimmed_calls (w0 := w) (ok := fun _ => True) (Kd.R_mono (xs := p.set i (x - 1)) (by have := HP.out.1; rw [Int.toNat_natCast] at this; exact this) (fun _ _ => trivial)) (by rw [List.length_set]; exact hl)).mono ?_; rintro e w4 ⟨u4, rfl, h4, rfl⟩; have H4 := Aside0.mk h4; clear h4))
  go_ret2
  refine ⟨_, rfl, ?_, below_set H3.out.below HGB.out⟩
  have := trimZ_boxOff HB.out
  rw [Int.toNat_natCast, ← HX.out] at this
  rw [← this]
  exact H4.out
end Go.Proofs.Ytljjjdgnpnnmoaa.Q

set_option linter.unusedVariables false
set_option linter.unusedSimpArgs false
namespace Go.Proofs.Ytljjjdgnpnnmoaa.Q
open Go.RowKit Go.Proofs.Ytljjjdgnpnnmoaa.F Go.Proofs.YtljjjdgnpnnmoaaW.PrintWords Go.Proofs.YtljjjdgnpnnmoaaW.PrintLast Go.Proofs.YtljjjdgnpnnmoaaW.PrintMore
section
open Go.ChangeShapes Go.WideShapes
variable {H : Type} {enc : TypeId × Value → H} {P : Program} {W : World}
theorem open_ints_C {t e : TypeId} {k : IntKind} {fuel : Nat} {v : Value} {x : DataW H × List MemPlace} (ht : P.underlying t = some (.slice e)) (he : P.underlying e = some (.int k)) (hc : P.cellsOf e = 1)
    (h : DataW.trod enc P W 0 (fun _ => true) true fuel t [v] = some x) :
    ∃ (a : Option Addr) (l : List Int) (cap : Nat), v = .slice a l.length cap ∧ l.length ≤ cap ∧ l.length ≤ maxLen ∧ (Kd.int k).C W a l.length l ∧ ∀ n ∈ l, (Lit.int k n).wf = true := by
  rcases open_ints ht he hc h with ⟨hcs, _⟩ | ⟨a, len, cap, zs, hcs, _, hl, hm, hz, _, hcell, hw⟩
  · obtain rfl : v = .slice none 0 0 := by simpa using hcs
    exact ⟨none, [], 0, rfl, Nat.le_refl _, Nat.zero_le _, Kd.C_nil _ _, by simp⟩
  · obtain rfl : v = .slice (some a) len cap := by simpa using hcs
    simp only [if_true] at hz
    have hlen : (zs.take len).length = len := by rw [List.length_take, hz]; omega
    refine ⟨some a, zs.take len, cap, by rw [hlen], by rw [hlen]; exact hl, by rw [hlen]; omega, ⟨rfl, by rw [hlen]; unfold maxLen at hm; omega, fun _ => ⟨a, rfl, fun j p hj => ?_⟩⟩, fun n hn => hw n (List.mem_of_mem_take hn)⟩
    have hjl : j < len := by have := (List.getElem?_eq_some_iff.1 hj).1; omega
    refine ⟨[.int k p], rfl, rfl, fun i u hu => ?_⟩
    cases i with
    | zero =>
      obtain rfl : Value.int k p = u := by simpa using hu
      have := hcell j (by omega)
      rw [show j * (Kd.int k).sz + 0 = j from by show j * 1 + 0 = j; omega, this]
      rw [List.getElem?_take, if_pos hjl] at hj
      rw [List.getD_eq_getElem?_getD, hj]; rfl
    | succ i => simp at hu
theorem open_rows_C {t e q : TypeId} {k : IntKind} {fuel : Nat} {v : Value} {x : DataW H × List MemPlace} (ht : P.underlying t = some (.slice e)) (he : P.underlying e = some (.slice q)) (hq : P.underlying q = some (.int k))
    (ce : P.cellsOf e = 1) (cq : P.cellsOf q = 1) (h : DataW.trod enc P W 0 (fun _ => true) true fuel t [v] = some x) :
    ∃ (a : Option Addr) (l : List (List Int)) (cap : Nat), v = .slice a l.length cap ∧ l.length ≤ cap ∧ l.length ≤ maxLen ∧ (Kd.slice q (Kd.int k)).C W a l.length l ∧ (∀ r ∈ l, r.length ≤ maxLen) ∧ ∀ r ∈ l, ∀ n ∈ r, (Lit.int k n).wf = true := by
  rcases Go.Deep.open_int_rows ht he hq ce cq h with ⟨hcs, _⟩ | ⟨a, len, cap, A, L, C, Z, hcs, _, hl, hm, _, hrow⟩
  · obtain rfl : v = .slice none 0 0 := by simpa using hcs
    exact ⟨none, [], 0, rfl, Nat.le_refl _, Nat.zero_le _, Kd.C_nil _ _, by simp, by simp⟩
  · obtain rfl : v = .slice (some a) len cap := by simpa using hcs
    have hlen : ((List.range len).map fun r => (Z r).take (L r)).length = len := by simp
    have hel : ∀ r, r < len → ((Z r).take (L r)).length = L r := by
      intro r hr
      obtain ⟨_, h1, _, h3, _⟩ := hrow r (by omega)
      rw [List.length_take, h3]; omega
    refine ⟨some a, (List.range len).map fun r => (Z r).take (L r), cap, by rw [hlen], by rw [hlen]; exact hl, by rw [hlen]; omega, ⟨rfl, by rw [hlen]; unfold maxLen at hm; omega, fun _ => ⟨a, rfl, fun j p hj => ?_⟩⟩, ?_, ?_⟩
    · have hjl : j < len := by have := (List.getElem?_eq_some_iff.1 hj).1; omega
      have hp : (Z j).take (L j) = p := by
        rw [List.getElem?_map, List.getElem?_range hjl] at hj
        simpa using hj
      subst hp
      obtain ⟨h0, h1, h2, h3, h4, h5, h6⟩ := hrow j (by omega)
      have hL := hel j hjl
      refine ⟨[.slice (A j) (L j) (C j)], rfl, ⟨A j, C j, by rw [hL], by rw [hL]; exact h1, rfl, by rw [hL]; unfold maxLen at h2; omega, fun hpos => ?_⟩, fun i u hu => ?_⟩
      · rw [hL] at hpos
        cases hA : A j with
        | none => have := h5 hA; omega
        | some a' =>
          refine ⟨a', rfl, fun c y hc => ?_⟩
          have hcl : c < L j := by have := (List.getElem?_eq_some_iff.1 hc).1; omega
          refine ⟨[.int k y], rfl, rfl, fun i u hu => ?_⟩
          cases i with
          | zero =>
            obtain rfl : Value.int k y = u := by simpa using hu
            rw [show c * (Kd.int k).sz + 0 = c from by show c * 1 + 0 = c; omega, (h6 a' hA).2 c (by omega)]
            rw [List.getElem?_take, if_pos hcl] at hc
            rw [List.getD_eq_getElem?_getD, hc]; rfl
          | succ i => simp at hu
      · cases i with
        | zero =>
          obtain rfl : Value.slice (A j) (L j) (C j) = u := by simpa using hu
          rw [show j * (Kd.slice q (Kd.int k)).sz + 0 = j from by show j * 1 + 0 = j; omega]
          exact h0
        | succ i => simp at hu
    · intro r hr
      obtain ⟨j, hj, rfl⟩ := List.mem_map.1 hr
      have hjl := List.mem_range.1 hj
      obtain ⟨_, h1, h2, _⟩ := hrow j (by omega)
      rw [hel j hjl]; omega
    · intro r hr n hn
      obtain ⟨j, hj, rfl⟩ := List.mem_map.1 hr
      have hjl := List.mem_range.1 hj
      obtain ⟨_, _, _, _, h4, _⟩ := hrow j (by omega)
      exact h4 n (List.mem_of_mem_take hn)
end
end Go.Proofs.Ytljjjdgnpnnmoaa.Q
