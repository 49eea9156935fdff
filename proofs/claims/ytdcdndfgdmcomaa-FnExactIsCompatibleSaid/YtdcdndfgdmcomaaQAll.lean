/- Plain Lean: what the printed functions compute, topic by topic; conditions: those that each theorem names. -/
import Derived.Test.YtdcdndfgdmcomaaF0
import Derived.Test.YtdcdndfgdmcomaaF1
import Derived.Test.YtdcdndfgdmcomaaF15
import Derived.Test.YtdcdndfgdmcomaaF16
import Derived.Test.YtdcdndfgdmcomaaF2
import Derived.Test.YtdcdndfgdmcomaaF13
import Derived.Test.YtdcdndfgdmcomaaF6
import Derived.Test.YtdcdndfgdmcomaaF9
import Derived.Test.YtdcdndfgdmcomaaF3
import Derived.Test.YtdcdndfgdmcomaaF10
import Derived.Test.YtdcdndfgdmcomaaF4
import Derived.Test.YtdcdndfgdmcomaaF11
import Derived.Test.YtdcdndfgdmcomaaF5
import Derived.Test.YtdcdndfgdmcomaaF12
import Derived.Test.YtdcdndfgdmcomaaF14
import Derived.Test.YtdcdndfgdmcomaaF7
import Derived.Test.YtdcdndfgdmcomaaF8
import Derived.Deep.Matrix
import Derived.Lib.SmallJoins
import Derived.ProofKit
import Derived.OpenShut
import Derived.ChangeSlices
set_option linter.unusedVariables false
set_option linter.unusedSimpArgs false
namespace Go.Proofs.Ytdcdndfgdmcomaa.Q
open Go.RowKit Go.Proofs.Ytdcdndfgdmcomaa.F Go.Proofs.YtdcdndfgdmcomaaW.PrintWords Go.Proofs.YtdcdndfgdmcomaaW.PrintLast Go.Proofs.YtdcdndfgdmcomaaW.PrintMore
section
variable {α β : Type} {r : α}
theorem ev_pos {c : Prop} [Decidable c] {A B : Nat → Option α} (h : c) (hA : Ev A r) : Ev (fun k => if c then A k else B k) r := by
  simp only [if_pos h]; exact hA
theorem ev_neg {c : Prop} [Decidable c] {A B : Nat → Option α} (h : ¬ c) (hB : Ev B r) : Ev (fun k => if c then A k else B k) r := by
  simp only [if_neg h]; exact hB
theorem ev_ite {c : Prop} [Decidable c] {A B : Nat → Option α} (hA : c → Ev A r) (hB : ¬ c → Ev B r) : Ev (fun k => if c then A k else B k) r := by
  by_cases h : c
  · exact ev_pos h (hA h)
  · exact ev_neg h (hB h)
theorem ev_bindc {o : Option β} {b : β} {f : Nat → β → Option α} (h : o = some b) (hf : Ev (fun k => f k b) r) : Ev (fun k => o.bind (f k)) r := by
  subst h; exact hf
theorem ev_val {a : α} (h : a = r) : Ev (fun _ => some a) r := by subst h; exact ⟨0, fun _ _ => rfl⟩
theorem ev_eq {g : Nat → Option α} {a : α} (h : Ev g a) (e : a = r) : Ev g r := e ▸ h
end
theorem wrap_succ {n : Nat} (h : n < 9223372036854775807) : wrap64 ((n : Int) + 1) = ((n + 1 : Nat) : Int) := by unfold wrap64; omega
theorem wrap_id {i : Int} (h0 : -9223372036854775808 ≤ i) (h : i ≤ 9223372036854775807) : wrap64 i = i := by unfold wrap64; omega
theorem rd_nat (l : List Int) (i : Nat) : rd l (i : Int) = l.getD i 0 := by unfold rd; simp
theorem rd_eq (l : List Int) (i : Nat) (h : i < l.length) : rd l (i : Int) = l[i] := by rw [rd_nat]; simp [h]
theorem drop_rd (l : List Int) (i : Nat) (h : i < l.length) : l.drop i = rd l (i : Int) :: l.drop (i + 1) := by
  rw [rd_eq l i h]; exact List.drop_eq_getElem_cons h
theorem take_rd (l : List Int) (i : Nat) (h : i < l.length) : l.take (i + 1) = l.take i ++ [rd l (i : Int)] := by
  rw [rd_eq l i h]; exact List.take_succ_eq_append_getElem h
theorem rd_mem (l : List Int) (i : Nat) (h : i < l.length) : rd l (i : Int) ∈ l := by rw [rd_eq l i h]; exact List.getElem_mem h
theorem downTo {P : Nat → Prop} (n : Nat) (h0 : P n) (hs : ∀ i, i < n → P (i + 1) → P i) : ∀ i, i ≤ n → P i := by
  intro i hi
  obtain ⟨d, rfl⟩ : ∃ d, n = i + d := ⟨n - i, by omega⟩
  clear hi
  induction d generalizing i with
  | zero => simpa using h0
  | succ d ih => exact hs i (by omega) (ih (i + 1) (by rwa [show i + 1 + d = i + (d + 1) by omega]) (fun j hj => hs j (by omega)))
end Go.Proofs.Ytdcdndfgdmcomaa.Q

set_option linter.unusedVariables false
set_option linter.unusedSimpArgs false
namespace Go.Proofs.Ytdcdndfgdmcomaa.Q
open Go.RowKit Go.Proofs.Ytdcdndfgdmcomaa.F Go.Proofs.YtdcdndfgdmcomaaW.PrintWords Go.Proofs.YtdcdndfgdmcomaaW.PrintLast Go.Proofs.YtdcdndfgdmcomaaW.PrintMore
structure Ob where
  ok : Nat → Prop
  P : World → Prop
def Firm (o : Ob) : Prop := ∀ W W' : World, o.P W → (∀ k, o.ok k → k < W.heap.size → W'.heap[k]? = W.heap[k]?) → o.P W'
structure St (w W : World) (L : List Ob) : Prop where
  below : Below w.heap.size w W
  own : ∀ o ∈ L, (∀ k, o.ok k → w.heap.size ≤ k ∧ k < W.heap.size) ∧ o.P W ∧ Firm o
  apart : L.Pairwise (fun a b => ∀ k, a.ok k → ¬ b.ok k)
def obR {α : Type} (d : Kd α) (t : Nat) (w : World) (ok : Nat → Prop) (v : Value) (xs : List α) : Ob := ⟨ok, fun W => Kd.R d t W w.heap.size ok v xs⟩
def obS {α : Type} (d : Kd α) (t : Nat) (w : World) (ok : Nat → Prop) (v : Value) (xs : List α) : Ob := ⟨ok, fun W => Kd.S d t W w.heap.size ok v xs⟩
section
variable {α β : Type} {d : Kd α} {d' : Kd β} {t t' : Nat} {w W W' : World} {ok ok' okq : Nat → Prop} {v v' : Value} {xs : List α} {ys : List β} {L L' : List Ob} {o o' : Ob}
theorem firmR : Firm (obR d t w ok v xs) := fun _ _ h hm => Kd.R_step h hm
theorem firmS : Firm (obS d t w ok v xs) := fun _ _ h hm => Kd.S_step h hm
theorem St.start (w : World) : St w w [] := ⟨Below.refl _ _, fun _ h => by simp at h, List.Pairwise.nil⟩
theorem St.quiet (h : St w W L) (hb : Below W.heap.size W W') : St w W' L := by
  have hs := h.below.size
  refine ⟨below_then h.below hs hb, fun o ho => ?_, h.apart⟩
  obtain ⟨h1, h2, h3⟩ := h.own o ho
  exact ⟨fun k hk => ⟨(h1 k hk).1, Nat.lt_of_lt_of_le (h1 k hk).2 hb.size⟩, h3 W W' h2 (fun k _ hk => hb.block k hk), h3⟩
theorem St.drawn (h : St w W L) (hd : Drawn0 W W') : St w W' L := h.quiet hd.below
theorem St.add (h : St w W L) (hb : Below W.heap.size W W') (hn : ∀ k, o.ok k → W.heap.size ≤ k ∧ k < W'.heap.size) (hP : o.P W') (hf : Firm o) : St w W' (o :: L) := by
  have hq := h.quiet hb
  have hs := h.below.size
  refine ⟨hq.below, fun p hp => ?_, List.Pairwise.cons (fun p hp k hk hk2 => ?_) hq.apart⟩
  · rcases List.mem_cons.1 hp with rfl | hp
    · exact ⟨fun k hk => ⟨Nat.le_trans hs (hn k hk).1, (hn k hk).2⟩, hP, hf⟩
    · exact hq.own p hp
  · have := (h.own p hp).1 k hk2
    have := hn k hk
    omega
theorem St.addR (h : St w W L) (hb : Below W.heap.size W W') (hr : Kd.R d t W' W.heap.size ok v xs) : ∃ ok1, St w W' (obR d t w ok1 v xs :: L) :=
  ⟨_, h.add (o := obR d t w (fun k => W.heap.size ≤ k ∧ k < W'.heap.size) v xs) hb (fun _ hk => hk) (Kd.R_mono (Kd.R_lower (Kd.R_bound hr) h.below.size) (fun k hk => ⟨hk.2.1, hk.2.2.1⟩)) firmR⟩
theorem St.add2 (h : St w W L) (hb : Below W.heap.size W W') (hn : ∀ k, o.ok k → W.heap.size ≤ k ∧ k < W'.heap.size) (hP : o.P W') (hf : Firm o) (hn' : ∀ k, o'.ok k → W.heap.size ≤ k ∧ k < W'.heap.size) (hP' : o'.P W') (hf' : Firm o')
    (ha : ∀ k, o.ok k → ¬ o'.ok k) : St w W' (o :: o' :: L) := by
  have h1 := h.add hb hn' hP' hf'
  have hs := h.below.size
  refine ⟨h1.below, fun p hp => ?_, List.Pairwise.cons (fun p hp k hk hk2 => ?_) h1.apart⟩
  · rcases List.mem_cons.1 hp with rfl | hp
    · exact ⟨fun k hk => ⟨Nat.le_trans hs (hn k hk).1, (hn k hk).2⟩, hP, hf⟩
    · exact h1.own p hp
  · rcases List.mem_cons.1 hp with rfl | hp
    · exact ha k hk hk2
    · have := (h.own p hp).1 k hk2
      have := hn k hk
      omega
theorem St.addRS (hE : d.E = []) (h : St w W L) (hb : Below W.heap.size W W') (hr : Kd.R d t W' W.heap.size (fun _ => True) v xs) (hr' : Kd.S d' t' W' W.heap.size (fun k => some k ≠ v.ownBlock) v' ys) : ∃ ok1 ok2, St w W' (obR d t w ok1 v xs :: obS d' t' w ok2 v' ys :: L) := by
  have hs := h.below.size
  refine ⟨_, _, h.add2 (o := obR d t w (fun k => some k = v.ownBlock ∧ W.heap.size ≤ k ∧ k < W'.heap.size) v xs) (o' := obS d' t' w (fun k => some k ≠ v.ownBlock ∧ W.heap.size ≤ k ∧ k < W'.heap.size) v' ys) hb (fun _ hk => hk.2) ?_ firmR (fun _ hk => hk.2) ?_ firmS (fun _ hk hk2 => hk2.1 hk.1)⟩
  · exact Kd.R_mono (Kd.R_lower (Kd.R_bound (Kd.R_tight hE hr)) hs) (fun k hk => ⟨hk.1, hk.2.1, hk.2.2.1⟩)
  · exact Kd.S_mono (Kd.S_lower (Kd.S_bound hr') hs) (fun k hk => ⟨hk.1, hk.2.1, hk.2.2.1⟩)
theorem St.get (h : St w W L) (i : Nat) (hi : L[i]? = some o) : o.P W := (h.own o (List.mem_of_getElem? hi)).2.1
def Reads (d : Kd α) (W : World) (v : Value) (xs : List α) : Prop := ∃ A c, v = .slice A xs.length c ∧ xs.length ≤ c ∧ d.C W A xs.length xs
theorem St.readR (h : St w W L) (i : Nat) (hi : L[i]? = some (obR d t w ok v xs)) : Reads d W v xs := Kd.R_reads (h.get i hi)
theorem St.readS (h : St w W L) (i : Nat) (hi : L[i]? = some (obS d t w ok v xs)) : Reads d W v xs := Kd.R_reads (Kd.S_R (h.get i hi))
theorem St.came (h : St w W L) {A : Option Addr} {c : Nat} (hr : d.C w A xs.length xs) (hc : xs.length ≤ c) : Reads d W (.slice A xs.length c) xs := ⟨A, c, rfl, hc, Kd.C_below hr h.below⟩
end
end Go.Proofs.Ytdcdndfgdmcomaa.Q

set_option linter.unusedVariables false
set_option linter.unusedSimpArgs false
namespace Go.Proofs.Ytdcdndfgdmcomaa.Q
open Go.RowKit Go.Proofs.Ytdcdndfgdmcomaa.F Go.Proofs.YtdcdndfgdmcomaaW.PrintWords Go.Proofs.YtdcdndfgdmcomaaW.PrintLast Go.Proofs.YtdcdndfgdmcomaaW.PrintMore
theorem toIntS_l0 (l : List Int) (hl : l.length ≤ 1048576) : ∀ (d i : Nat), i + d = l.length → Ev (fun k => laws_toIntS.l0 k l (l.take i ++ List.replicate d 0) (i : Int)) l := by
  intro d
  induction d with
  | zero =>
    intro i h
    refine Ev.step (fun k => by rw [laws_toIntS.l0]) ?_
    refine ev_neg (by omega) (ev_val ?_)
    simp [List.take_of_length_le (show l.length ≤ i by omega)]
  | succ d ih =>
    intro i h
    have hi : i < l.length := by omega
    refine Ev.step (fun k => by rw [laws_toIntS.l0]) ?_
    refine ev_pos (by omega) (ev_pos (by omega) (ev_pos (by simp; omega) ?_))
    have e : (l.take i ++ List.replicate (d + 1) 0).set (i : Int).toNat (rd l (i : Int)) = l.take (i + 1) ++ List.replicate d 0 := by
      rw [take_rd l i hi, List.set_append_right _ _ (by simp; omega)]
      simp [List.replicate_succ, Nat.min_eq_left (Nat.le_of_lt hi)]
    rw [e, wrap_succ (by omega)]
    exact ih (i + 1) (by omega)
theorem toIntS_ev (l : List Int) (hl : l.length ≤ 1048576) : Ev (fun k => laws_toIntS.f k l) l := by
  unfold laws_toIntS.f
  refine ev_pos (by omega) (ev_pos (by simp; omega) ?_)
  have := toIntS_l0 l hl l.length 0 (by omega)
  simpa using this
theorem eqIntS_l0 (a b : List Int) (hl : a.length = b.length) (hb : a.length ≤ 1152921504606846976) : ∀ (d i : Nat), i + d = a.length → Ev (fun k => laws_eqIntS.l0 k a b (i : Int)) (decide (a.drop i = b.drop i)) := by
  intro d
  induction d with
  | zero =>
    intro i h
    refine Ev.step (fun k => by rw [laws_eqIntS.l0]) ?_
    refine ev_neg (by omega) (ev_val ?_)
    rw [List.drop_of_length_le (by omega), List.drop_of_length_le (by omega)]
    simp
  | succ d ih =>
    intro i h
    refine Ev.step (fun k => by rw [laws_eqIntS.l0]) ?_
    refine ev_pos (by omega) (ev_pos (by omega) (ev_pos (by omega) (ev_ite (fun he => ?_) (fun he => ev_val ?_))))
    · rw [wrap_succ (by omega)]
      refine ev_eq (ih (i + 1) (by omega)) ?_
      rw [drop_rd a i (by omega), drop_rd b i (by omega), he]
      simp
    · rw [drop_rd a i (by omega), drop_rd b i (by omega)]
      simp [he]
theorem eqIntS_ev (a b : List Int) (hb : a.length ≤ 1152921504606846976) : Ev (fun k => laws_eqIntS.f k a b) (decide (a = b)) := by
  unfold laws_eqIntS.f
  refine ev_ite (fun h => ?_) (fun h => ev_val ?_)
  · have := eqIntS_l0 a b (by omega) hb a.length 0 (by omega)
    simpa using this
  · have : a ≠ b := fun e => h (by rw [e])
    simp [this]
end Go.Proofs.Ytdcdndfgdmcomaa.Q

set_option linter.unusedVariables false
set_option linter.unusedSimpArgs false
namespace Go.Proofs.Ytdcdndfgdmcomaa.Q
open Go.RowKit Go.Proofs.Ytdcdndfgdmcomaa.F Go.Proofs.YtdcdndfgdmcomaaW.PrintWords Go.Proofs.YtdcdndfgdmcomaaW.PrintLast Go.Proofs.YtdcdndfgdmcomaaW.PrintMore
def sumCount (l : List Int) : Nat → Nat
  | 0 => 0
  | n + 1 => sumCount l n + l.countP (fun x => decide (x = ((n + 1 : Nat) : Int)))
theorem countP_split (l : List Int) (p q r : Int → Bool) (h : ∀ x ∈ l, (if r x then 1 else 0) = (if p x then 1 else 0) + (if q x then (1 : Nat) else 0)) : l.countP r = l.countP p + l.countP q := by
  induction l with
  | nil => rfl
  | cons x l ih =>
    have h1 := h x (by simp)
    have h2 := ih (fun y hy => h y (by simp [hy]))
    simp only [List.countP_cons]
    omega
theorem sumCount_eq (l : List Int) (n : Nat) : sumCount l n = l.countP (fun x => decide (1 ≤ x ∧ x ≤ (n : Int))) := by
  induction n with
  | zero =>
    rw [sumCount]; symm
    rw [List.countP_eq_zero]
    intro x _; simp; omega
  | succ n ih =>
    rw [sumCount, ih]; symm
    apply countP_split
    intro x _
    by_cases h1 : 1 ≤ x ∧ x ≤ (n : Int)
    · have : ¬ x = ((n + 1 : Nat) : Int) := by omega
      have h3 : 1 ≤ x ∧ x ≤ ((n + 1 : Nat) : Int) := by omega
      simp only [decide_eq_true h1, decide_eq_true h3, decide_eq_false this]; rfl
    · by_cases h2 : x = ((n + 1 : Nat) : Int)
      · have h3 : 1 ≤ x ∧ x ≤ ((n + 1 : Nat) : Int) := by omega
        simp only [decide_eq_false h1, decide_eq_true h3, decide_eq_true h2]; rfl
      · have h3 : ¬ (1 ≤ x ∧ x ≤ ((n + 1 : Nat) : Int)) := by omega
        simp only [decide_eq_false h1, decide_eq_false h3, decide_eq_false h2]; rfl
theorem countP_pos_of_mem {l : List Int} {v : Int} (h : v ∈ l) : 1 ≤ l.countP (fun x => decide (x = v)) := by
  have : 0 < l.countP (fun x => decide (x = v)) := List.countP_pos_iff.2 ⟨v, h, by simp⟩
  omega
theorem mem_of_countP {l : List Int} {v : Int} (h : 1 ≤ l.countP (fun x => decide (x = v))) : v ∈ l := by
  obtain ⟨x, hx, he⟩ := List.countP_pos_iff.1 (show 0 < l.countP (fun x => decide (x = v)) by omega)
  rw [decide_eq_true_eq] at he
  exact he ▸ hx
theorem nodup_count {l : List Int} (h : l.Nodup) (v : Int) : l.countP (fun x => decide (x = v)) ≤ 1 := by
  have := List.nodup_iff_count.1 h v
  rw [List.count] at this
  refine Nat.le_trans (Nat.le_of_eq ?_) this
  apply List.countP_congr
  intro x _; simp
theorem nodup_of_count {l : List Int} (h : ∀ v, l.countP (fun x => decide (x = v)) ≤ 1) : l.Nodup := by
  rw [List.nodup_iff_count]
  intro v
  rw [List.count]
  refine Nat.le_trans (Nat.le_of_eq ?_) (h v)
  apply List.countP_congr
  intro x _; simp
theorem sumCount_ge {l : List Int} (n : Nat) (h : ∀ v : Nat, 1 ≤ v → v ≤ n → (v : Int) ∈ l) : n ≤ sumCount l n := by
  induction n with
  | zero => omega
  | succ n ih =>
    have h1 := ih (fun v a b => h v a (by omega))
    have h2 := countP_pos_of_mem (h (n + 1) (by omega) (by omega))
    rw [sumCount]; omega
theorem sumCount_le {l : List Int} (hd : l.Nodup) (n : Nat) : sumCount l n ≤ n := by
  induction n with
  | zero => simp [sumCount]
  | succ n ih =>
    have := nodup_count hd ((n + 1 : Nat) : Int)
    rw [sumCount]; omega
theorem sumCount_tight {l : List Int} (n : Nat) (hle : sumCount l n ≤ n) (h : ∀ v : Nat, 1 ≤ v → v ≤ n → (v : Int) ∈ l) : ∀ v : Nat, 1 ≤ v → v ≤ n → l.countP (fun x => decide (x = (v : Int))) = 1 := by
  induction n with
  | zero => intro v a b; omega
  | succ n ih =>
    have h1 := sumCount_ge n (fun v a b => h v a (by omega))
    have h2 := countP_pos_of_mem (h (n + 1) (by omega) (by omega))
    rw [sumCount] at hle
    intro v a b
    by_cases e : v = n + 1
    · subst e; omega
    · exact ih (by omega) (fun v a b => h v a (by omega)) v a (by omega)
theorem sumCount_full {l : List Int} (hd : l.Nodup) (n : Nat) (hge : n ≤ sumCount l n) : ∀ v : Nat, 1 ≤ v → v ≤ n → (v : Int) ∈ l := by
  induction n with
  | zero => intro v a b; omega
  | succ n ih =>
    have h1 := sumCount_le hd n
    have h2 := nodup_count hd ((n + 1 : Nat) : Int)
    rw [sumCount] at hge
    intro v a b
    by_cases e : v = n + 1
    · subst e; exact mem_of_countP (by omega)
    · exact ih (by omega) v a (by omega)
theorem once_iff {l : List Int} (hp : ∀ x ∈ l, 1 ≤ x) : (∀ v : Nat, 1 ≤ v → v ≤ l.length → (v : Int) ∈ l) ↔ (l.Nodup ∧ ∀ x ∈ l, x ≤ (l.length : Int)) := by
  constructor
  · intro h
    have h1 := sumCount_ge l.length h
    have h2 : sumCount l l.length ≤ l.length := by rw [sumCount_eq]; exact List.countP_le_length
    have h3 : l.countP (fun x => decide (1 ≤ x ∧ x ≤ (l.length : Int))) = l.length := by rw [← sumCount_eq]; omega
    have h4 : ∀ x ∈ l, x ≤ (l.length : Int) := by
      intro x hx
      have := List.countP_eq_length.1 h3 x hx
      simp at this; exact this.2
    refine ⟨nodup_of_count (fun v => ?_), h4⟩
    by_cases hv : v ∈ l
    · have a := hp v hv
      have b := h4 v hv
      obtain ⟨m, rfl⟩ : ∃ m : Nat, v = (m : Int) := ⟨v.toNat, by omega⟩
      exact Nat.le_of_eq (sumCount_tight l.length h2 h m (by omega) (by omega))
    · rw [Nat.le_one_iff_eq_zero_or_eq_one]; left
      rw [List.countP_eq_zero]
      intro x hx he
      rw [decide_eq_true_eq] at he
      exact hv (he ▸ hx)
  · rintro ⟨hd, hle⟩
    refine sumCount_full hd l.length ?_
    rw [sumCount_eq, List.countP_eq_length.2]
    · exact Nat.le_refl _
    · intro x hx; rw [decide_eq_true_eq]; exact ⟨hp x hx, hle x hx⟩
end Go.Proofs.Ytdcdndfgdmcomaa.Q

set_option linter.unusedVariables false
set_option linter.unusedSimpArgs false
namespace Go.Proofs.Ytdcdndfgdmcomaa.Q
open Go.RowKit Go.Proofs.Ytdcdndfgdmcomaa.F Go.Proofs.YtdcdndfgdmcomaaW.PrintWords Go.Proofs.YtdcdndfgdmcomaaW.PrintLast Go.Proofs.YtdcdndfgdmcomaaW.PrintMore
end Go.Proofs.Ytdcdndfgdmcomaa.Q

set_option linter.unusedVariables false
set_option linter.unusedSimpArgs false
namespace Go.Proofs.Ytdcdndfgdmcomaa.Q
open Go.RowKit Go.Proofs.Ytdcdndfgdmcomaa.F Go.Proofs.YtdcdndfgdmcomaaW.PrintWords Go.Proofs.YtdcdndfgdmcomaaW.PrintLast Go.Proofs.YtdcdndfgdmcomaaW.PrintMore
section
variable {w W : World} {L L' : List Ob} {ok ok' : Nat → Prop} {v v' : Value} {xs ys : List Int}
theorem toIntS_st (h : St w W L) (hr : Reads (Kd.int .i64) W v xs) (hl : xs.length ≤ 1048576) :
    Calls Try.prog 27 #[v] W fun e W' => ∃ v1 ok1, e = .returned v1 ∧ St w W' (obR (Kd.int .i64) 3 w ok1 v1 xs :: L) := by
  obtain ⟨A, c, rfl, hc, hC⟩ := hr
  obtain ⟨K, hK⟩ := toIntS_ev xs hl
  refine (laws_toIntS.calls K A c xs xs W hC hc (hK K (Nat.le_refl _))).mono ?_
  rintro e W' ⟨v1, rfl, hR, hB⟩
  obtain ⟨ok1, h1⟩ := h.addR hB hR
  exact ⟨v1, ok1, rfl, h1⟩
theorem eqIntS_st (h : St w W L) (hr : Reads (Kd.int .i64) W v xs) (hr' : Reads (Kd.int .i64) W v' ys) (hl : xs.length ≤ 1152921504606846976) :
    Calls Try.prog 20 #[v, v'] W fun e W' => e = .returned (.bool (decide (xs = ys))) ∧ St w W' L := by
  obtain ⟨A, c, rfl, hc, hC⟩ := hr
  obtain ⟨A', c', rfl, hc', hC'⟩ := hr'
  obtain ⟨K, hK⟩ := eqIntS_ev xs ys hl
  refine (laws_eqIntS.calls K A c xs A' c' ys _ W hC hc hC' hc' (hK K (Nat.le_refl _))).mono ?_
  rintro e W' ⟨rfl, hd⟩
  exact ⟨rfl, h.drawn hd⟩
theorem eqIntS_st_same (h : St w W L) (hr : Reads (Kd.int .i64) W v xs) (hr' : Reads (Kd.int .i64) W v' xs) (hl : xs.length ≤ 1152921504606846976) :
    Calls Try.prog 20 #[v, v'] W fun e W' => e = .returned (.bool true) ∧ St w W' L := by
  refine (eqIntS_st h hr hr' hl).mono ?_
  rintro e W' ⟨rfl, hd⟩
  exact ⟨by simp, hd⟩
end
end Go.Proofs.Ytdcdndfgdmcomaa.Q

set_option linter.unusedVariables false
set_option linter.unusedSimpArgs false
namespace Go.Proofs.Ytdcdndfgdmcomaa.Q
open Go.RowKit Go.Proofs.Ytdcdndfgdmcomaa.F Go.Proofs.YtdcdndfgdmcomaaW.PrintWords Go.Proofs.YtdcdndfgdmcomaaW.PrintLast Go.Proofs.YtdcdndfgdmcomaaW.PrintMore
theorem rows_nat (l : List (List Int)) (i : Nat) : rd_L1 l (i : Int) = l.getD i [] := by unfold rd_L1; simp
theorem rows_eq (l : List (List Int)) (i : Nat) (h : i < l.length) : rd_L1 l (i : Int) = l[i] := by rw [rows_nat]; simp [h]
theorem drop_rows (l : List (List Int)) (i : Nat) (h : i < l.length) : l.drop i = rd_L1 l (i : Int) :: l.drop (i + 1) := by
  rw [rows_eq l i h]; exact List.drop_eq_getElem_cons h
theorem take_rows (l : List (List Int)) (i : Nat) (h : i < l.length) : l.take (i + 1) = l.take i ++ [rd_L1 l (i : Int)] := by
  rw [rows_eq l i h]; exact List.take_succ_eq_append_getElem h
theorem rows_mem (l : List (List Int)) (i : Nat) (h : i < l.length) : rd_L1 l (i : Int) ∈ l := by rw [rows_eq l i h]; exact List.getElem_mem h
def isum : List Int → Int
  | [] => 0
  | x :: l => x + isum l
def bulk : List (List Int) → Nat
  | [] => 0
  | r :: m => r.length + bulk m
theorem isum_nonneg {l : List Int} (h : ∀ x ∈ l, 0 ≤ x) : 0 ≤ isum l := by
  induction l with
  | nil => exact Int.le_refl _
  | cons x l ih =>
    have h1 := h x (by simp)
    have h2 := ih (fun y hy => h y (by simp [hy]))
    unfold isum; omega
theorem isum_le {l : List Int} {b : Nat} (h : ∀ x ∈ l, x ≤ (b : Int)) : isum l ≤ ((b * l.length : Nat) : Int) := by
  induction l with
  | nil => simp [isum]
  | cons x l ih =>
    have h1 := h x (by simp)
    have h2 := ih (fun y hy => h y (by simp [hy]))
    unfold isum
    rw [List.length_cons, Nat.mul_add]
    omega
theorem isum_append (a b : List Int) : isum (a ++ b) = isum a + isum b := by
  induction a with
  | nil => simp [isum]
  | cons x l ih => simp [isum, ih]; omega
theorem bulk_mem {m : List (List Int)} {r : List Int} (h : r ∈ m) : r.length ≤ bulk m := by
  induction m with
  | nil => simp at h
  | cons q m ih =>
    unfold bulk
    rcases List.mem_cons.1 h with rfl | h
    · omega
    · have := ih h; omega
end Go.Proofs.Ytdcdndfgdmcomaa.Q

set_option linter.unusedVariables false
set_option linter.unusedSimpArgs false
namespace Go.Proofs.Ytdcdndfgdmcomaa.Q
open Go.RowKit Go.Proofs.Ytdcdndfgdmcomaa.F Go.Proofs.YtdcdndfgdmcomaaW.PrintWords Go.Proofs.YtdcdndfgdmcomaaW.PrintLast Go.Proofs.YtdcdndfgdmcomaaW.PrintMore
theorem szIntS_eq (l : List Int) (left : Int) (h0 : 0 ≤ left) (h1 : left ≤ 1048576) (hm : l.length ≤ maxLen) : laws_szIntS.f l left = some (if left - l.length < 0 then -1 else left - l.length) := by
  unfold maxLen at hm
  unfold laws_szIntS.f
  rw [wrap_id (by omega) (by omega)]
  split <;> rfl
theorem szIntSS_ev (l : List (List Int)) (left : Int) (h0 : 0 ≤ left) (h1 : left ≤ 1048576) (hm : l.length ≤ maxLen) (hr : ∀ r ∈ l, r.length ≤ maxLen) :
    ∃ r, Ev (fun k => laws_szIntSS.f k l left) r ∧ (r < 0 ∨ (0 ≤ r ∧ r = left - (l.length : Int) - (bulk l : Int))) := by
  unfold maxLen at hm
  unfold laws_szIntSS.f
  rw [wrap_id (by omega) (by omega)]
  by_cases hneg : left - (l.length : Int) < 0
  · exact ⟨-1, ev_pos hneg (ev_val rfl), .inl (by omega)⟩
  · have key : ∀ i, i ≤ l.length → ∀ left : Int, 0 ≤ left → left ≤ 1048576 → ∃ r, Ev (fun k => laws_szIntSS.l0 k l left (i : Int)) r ∧ (r < 0 ∨ (0 ≤ r ∧ r = left - (bulk (l.drop i) : Int))) := by
      refine downTo l.length ?_ ?_
      · intro left a b
        refine ⟨left, ?_, .inr ⟨a, by rw [List.drop_length]; simp [bulk]⟩⟩
        refine Ev.step (fun k => by rw [laws_szIntSS.l0]) ?_
        exact ev_neg (by omega) (ev_val rfl)
      · intro i hi ih left a b
        have hrow := hr _ (rows_mem l i hi)
        by_cases hn : left - ((rd_L1 l (i : Int)).length : Int) < 0
        · refine ⟨-1, ?_, .inl (by omega)⟩
          refine Ev.step (fun k => by rw [laws_szIntSS.l0]) ?_
          exact ev_pos (by omega) (ev_pos (by omega) (ev_bindc (szIntS_eq _ _ a b hrow) (ev_pos (by rw [if_pos hn]; omega) (ev_val rfl))))
        · obtain ⟨r, hev, hp⟩ := ih (left - ((rd_L1 l (i : Int)).length : Int)) (by omega) (by omega)
          refine ⟨r, ?_, ?_⟩
          · refine Ev.step (fun k => by rw [laws_szIntSS.l0]) ?_
            refine ev_pos (by omega) (ev_pos (by omega) (ev_bindc (szIntS_eq _ _ a b hrow) (ev_neg (by rw [if_neg hn]; omega) ?_)))
            rw [if_neg hn, wrap_succ (by omega)]
            exact hev
          · rw [drop_rows l i hi]
            unfold bulk
            omega
    obtain ⟨r, hev, hp⟩ := key 0 (by omega) (left - (l.length : Int)) (by omega) (by omega)
    rw [List.drop_zero] at hp
    exact ⟨r, ev_neg hneg hev, hp⟩
theorem toIntSS_ev (l : List (List Int)) (hl : l.length ≤ 1048576) (hr : ∀ r ∈ l, r.length ≤ 1048576) : Ev (fun k => laws_toIntSS.f k l) l := by
  unfold laws_toIntSS.f
  refine ev_pos (by omega) (ev_pos (by simp; omega) ?_)
  have key : ∀ (d i : Nat), i + d = l.length → Ev (fun k => laws_toIntSS.l0 k l (l.take i ++ List.replicate d []) (i : Int)) l := by
    intro d
    induction d with
    | zero =>
      intro i h
      refine Ev.step (fun k => by rw [laws_toIntSS.l0]) ?_
      refine ev_neg (by omega) (ev_val ?_)
      simp [List.take_of_length_le (show l.length ≤ i by omega)]
    | succ d ih =>
      intro i h
      have hi : i < l.length := by omega
      refine Ev.step (fun k => by rw [laws_toIntSS.l0]) ?_
      refine ev_pos (by omega) (ev_pos (by omega) (Ev.bind (toIntS_ev _ (hr _ (rows_mem l i hi))) (ev_pos (by simp; omega) ?_)))
      have e : (l.take i ++ List.replicate (d + 1) []).set (i : Int).toNat (rd_L1 l (i : Int)) = l.take (i + 1) ++ List.replicate d [] := by
        rw [take_rows l i hi, List.set_append_right _ _ (by simp; omega)]
        simp [List.replicate_succ, Nat.min_eq_left (Nat.le_of_lt hi)]
      rw [e, wrap_succ (by omega)]
      exact ih (i + 1) (by omega)
  have := key l.length 0 (by omega)
  simpa using this
theorem eqIntSS_ev (a b : List (List Int)) (hl : a.length ≤ 1152921504606846976) (hr : ∀ r ∈ a, r.length ≤ 1152921504606846976) : Ev (fun k => laws_eqIntSS.f k a b) (decide (a = b)) := by
  unfold laws_eqIntSS.f
  refine ev_ite (fun h => ?_) (fun h => ev_val ?_)
  · have := downTo (P := fun i => Ev (fun k => laws_eqIntSS.l0 k a b (i : Int)) (decide (a.drop i = b.drop i))) a.length ?_ ?_ 0 (by omega)
    · simpa using this
    · refine Ev.step (fun k => by rw [laws_eqIntSS.l0]) ?_
      refine ev_neg (by omega) (ev_val ?_)
      rw [List.drop_of_length_le (by omega), List.drop_of_length_le (by omega)]
      simp
    · intro i hi ih
      refine Ev.step (fun k => by rw [laws_eqIntSS.l0]) ?_
      refine ev_pos (by omega) (ev_pos (by omega) (ev_pos (by omega) (Ev.bind (eqIntS_ev _ _ (hr _ (rows_mem a i hi))) (ev_ite (fun he => ?_) (fun he => ev_val ?_)))))
      · rw [wrap_succ (by omega)]
        refine ev_eq ih ?_
        rw [decide_eq_true_eq] at he
        rw [drop_rows a i (by omega), drop_rows b i (by omega), he]
        simp
      · rw [decide_eq_true_eq] at he
        rw [drop_rows a i (by omega), drop_rows b i (by omega)]
        simp [he]
  · have : a ≠ b := fun e => h (by rw [e])
    simp [this]
end Go.Proofs.Ytdcdndfgdmcomaa.Q

set_option linter.unusedVariables false
set_option linter.unusedSimpArgs false
namespace Go.Proofs.Ytdcdndfgdmcomaa.Q
open Go.RowKit Go.Proofs.Ytdcdndfgdmcomaa.F Go.Proofs.YtdcdndfgdmcomaaW.PrintWords Go.Proofs.YtdcdndfgdmcomaaW.PrintLast Go.Proofs.YtdcdndfgdmcomaaW.PrintMore
end Go.Proofs.Ytdcdndfgdmcomaa.Q

set_option linter.unusedVariables false
set_option linter.unusedSimpArgs false
namespace Go.Proofs.Ytdcdndfgdmcomaa.Q
open Go.RowKit Go.Proofs.Ytdcdndfgdmcomaa.F Go.Proofs.YtdcdndfgdmcomaaW.PrintWords Go.Proofs.YtdcdndfgdmcomaaW.PrintLast Go.Proofs.YtdcdndfgdmcomaaW.PrintMore
section
variable {w W : World} {L L' : List Ob} {ok ok' : Nat → Prop} {v v' : Value} {xs ys : List (List Int)}
end
end Go.Proofs.Ytdcdndfgdmcomaa.Q

set_option linter.unusedVariables false
set_option linter.unusedSimpArgs false
namespace Go.Proofs.Ytdcdndfgdmcomaa.Q
open Go.RowKit Go.Proofs.Ytdcdndfgdmcomaa.F Go.Proofs.YtdcdndfgdmcomaaW.PrintWords Go.Proofs.YtdcdndfgdmcomaaW.PrintLast Go.Proofs.YtdcdndfgdmcomaaW.PrintMore
section
variable {w W : World} {L L' : List Ob} {o : Ob} {ok ok' : Nat → Prop} {v0 v1 u0 u1 : Value} {n : List Int} {m : List (List Int)}
theorem St.drop (h : St w W (o :: L)) : St w W L := ⟨h.below, fun p hp => h.own p (List.mem_cons_of_mem _ hp), (List.pairwise_cons.1 h.apart).2⟩
def obB (b : Nat) (cs : Array Value) (t : Nat) : Ob := ⟨fun k => k = b, fun W => W.heap[b]? = some (.cells cs t (0, 0))⟩
theorem firmB {b : Nat} {cs : Array Value} {t : Nat} : Firm (obB b cs t) := fun _ _ h hm => (hm b rfl (blk_lt h)).trans h
theorem St.cellB (h : St w W L) {b t : Nat} {cs : Array Value} (i : Nat) (hi : L[i]? = some (obB b cs t)) (j : Nat) {v : Value} (hv : cs[j]? = some v) : W.cell? ⟨b, j, none⟩ = some v := (blk_cell (show W.heap[b]? = some (.cells cs t (0, 0)) from h.get i hi) j).trans hv
theorem St.box (h : St w W L) (cs : Array Value) (t : Nat) : St w (W.alloc (.cells cs t (0, 0))) (obB W.heap.size cs t :: L) := by
  have e1 : (W.alloc (.cells cs t (0, 0))).heap.size = W.heap.size + 1 := by show (W.heap.push _).size = _; exact Array.size_push ..
  refine h.add (o := obB W.heap.size cs t) (below_alloc (Below.refl _ _) _) (fun k hk => ?_) ?_ firmB
  · have h1 : k = W.heap.size := hk
    omega
  · show (W.heap.push _)[W.heap.size]? = _
    exact Array.getElem?_push_size
theorem eqTableau_st_same (h : St w W L) (h0 : Reads (Kd.int .i64) W v0 n) (h1 : Reads (Kd.slice 3 (Kd.int .i64)) W v1 m) (h2 : Reads (Kd.int .i64) W u0 n) (h3 : Reads (Kd.slice 3 (Kd.int .i64)) W u1 m)
    (hn : n.length ≤ 1152921504606846976) (hm : m.length ≤ 1152921504606846976) (hb : ∀ r ∈ m, r.length ≤ 1152921504606846976) :
    Calls Try.prog 11 #[.agg #[v0, v1], .agg #[u0, u1]] W fun e W' => e = .returned (.bool true) ∧ St w W' L := by
  obtain ⟨A0, c0, rfl, hc0, hC0⟩ := h0
  obtain ⟨A1, c1, rfl, hc1, hC1⟩ := h1
  obtain ⟨A2, c2, rfl, hc2, hC2⟩ := h2
  obtain ⟨A3, c3, rfl, hc3, hC3⟩ := h3
  have hE : Ev (fun k => laws_eqTableau.f k n m n m) true := by
    unfold laws_eqTableau.f
    exact Ev.bind (eqIntS_ev n n hn) (ev_pos (by simp) (Ev.bind (eqIntSS_ev m m hm hb) (ev_pos (by simp) (ev_val rfl))))
  obtain ⟨K, hK⟩ := hE
  refine (laws_eqTableau.calls K A0 c0 n A1 c1 m A2 c2 n A3 c3 m true W hC0 hc0 hC1 hc1 hC2 hc2 hC3 hc3 (hK K (Nat.le_refl _))).mono ?_
  rintro e W' ⟨rfl, hd⟩
  exact ⟨rfl, h.quiet hd⟩
end
end Go.Proofs.Ytdcdndfgdmcomaa.Q

set_option linter.unusedVariables false
set_option linter.unusedSimpArgs false
namespace Go.Proofs.Ytdcdndfgdmcomaa.Q
open Go.RowKit Go.Proofs.Ytdcdndfgdmcomaa.F Go.Proofs.YtdcdndfgdmcomaaW.PrintWords Go.Proofs.YtdcdndfgdmcomaaW.PrintLast Go.Proofs.YtdcdndfgdmcomaaW.PrintMore
theorem toTableau_ev (n : List Int) (m : List (List Int)) (hn : n.length ≤ 1048576) (hm : m.length ≤ 1048576) (hr : ∀ r ∈ m, r.length ≤ 1048576) : Ev (fun k => laws_toTableau.f k n m) (n, m) := by
  unfold laws_toTableau.f
  exact Ev.bind (toIntS_ev n hn) (Ev.bind (toIntSS_ev m hm hr) (ev_val rfl))
end Go.Proofs.Ytdcdndfgdmcomaa.Q

set_option linter.unusedVariables false
set_option linter.unusedSimpArgs false
namespace Go.Proofs.Ytdcdndfgdmcomaa.Q
open Go.RowKit Go.Proofs.Ytdcdndfgdmcomaa.F Go.Proofs.YtdcdndfgdmcomaaW.PrintWords Go.Proofs.YtdcdndfgdmcomaaW.PrintLast Go.Proofs.YtdcdndfgdmcomaaW.PrintMore
section
variable {w W : World} {L L' : List Ob} {v0 v1 : Value} {n : List Int} {m : List (List Int)}
theorem St.boxAt (h : St w W L) (cs : Array Value) (t : Nat) {b : Nat} (hb : b = W.heap.size) : St w (W.alloc (.cells cs t (0, 0))) (obB b cs t :: L) := by
  subst hb
  exact h.box cs t
theorem szTableau_evb (n : List Int) (m : List (List Int)) (left : Int) (h0 : 0 ≤ left) (h1 : left ≤ 1048576) (hn : n.length ≤ maxLen) (hm : m.length ≤ maxLen) (hr : ∀ r ∈ m, r.length ≤ maxLen) :
    ∃ z, Ev (fun k => laws_szTableau.f k n m left) z ∧ (z < 0 ∨ (0 ≤ z ∧ z = left - (n.length : Int) - (m.length : Int) - (bulk m : Int))) := by
  unfold laws_szTableau.f
  by_cases h2 : left - (n.length : Int) < 0
  · refine ⟨-1, ev_bindc (szIntS_eq n left (by omega) (by omega) hn) ?_, .inl (by omega)⟩
    rw [if_pos h2]
    exact ev_pos (by omega) (ev_val rfl)
  · obtain ⟨z, hz, hp⟩ := szIntSS_ev m (left - (n.length : Int)) (by omega) (by omega) hm hr
    refine ⟨if z < 0 then -1 else z, ev_bindc (szIntS_eq n left (by omega) (by omega) hn) ?_, ?_⟩
    · rw [if_neg h2]
      refine ev_neg h2 (Ev.bind hz (ev_ite (fun h => ev_val (by rw [if_pos h])) (fun h => ev_val (by rw [if_neg h]))))
    · by_cases h : z < 0
      · rw [if_pos h]; exact .inl (by omega)
      · rw [if_neg h]
        exact .inr (by omega)
theorem szTableau_st {a z : Int} (h : St w W L) (h0 : Reads (Kd.int .i64) W v0 n) (h1 : Reads (Kd.slice 3 (Kd.int .i64)) W v1 m) (hE : Ev (fun k => laws_szTableau.f k n m a) z) :
    Calls Try.prog 16 #[.agg #[v0, v1], .int .i64 a] W fun e W' => e = .returned (.int .i64 z) ∧ St w W' L := by
  obtain ⟨A0, c0, rfl, hc0, hC0⟩ := h0
  obtain ⟨A1, c1, rfl, hc1, hC1⟩ := h1
  obtain ⟨K, hK⟩ := hE
  refine (laws_szTableau.calls K A0 c0 n A1 c1 m a z W hC0 hc0 hC1 hc1 (hK K (Nat.le_refl _))).mono ?_
  rintro e W' ⟨rfl, hd⟩
  exact ⟨rfl, h.quiet hd⟩
theorem toTableau_st (h : St w W L) (h0 : Reads (Kd.int .i64) W v0 n) (h1 : Reads (Kd.slice 3 (Kd.int .i64)) W v1 m) (hn : n.length ≤ 1048576) (hm : m.length ≤ 1048576) (hb : ∀ r ∈ m, r.length ≤ 1048576) :
    Calls Try.prog 18 #[.agg #[v0, v1]] W fun e W' => ∃ u0 u1 ok0 ok1, e = .returned (.agg #[u0, u1]) ∧ St w W' (obR (Kd.int .i64) 3 w ok0 u0 n :: obS (Kd.slice 3 (Kd.int .i64)) 24 w ok1 u1 m :: L) := by
  obtain ⟨A0, c0, rfl, hc0, hC0⟩ := h0
  obtain ⟨A1, c1, rfl, hc1, hC1⟩ := h1
  obtain ⟨K, hK⟩ := toTableau_ev n m hn hm hb
  refine (laws_toTableau.calls K A0 c0 n A1 c1 m n m W hC0 hc0 hC1 hc1 (hK K (Nat.le_refl _))).mono ?_
  rintro e W' ⟨u0, u1, rfl, hR, hS, hB⟩
  obtain ⟨ok0, ok1, h1⟩ := St.addRS rfl h hB hR hS
  exact ⟨u0, u1, ok0, ok1, rfl, h1⟩
end
end Go.Proofs.Ytdcdndfgdmcomaa.Q

set_option linter.unusedVariables false
set_option linter.unusedSimpArgs false
namespace Go.Proofs.Ytdcdndfgdmcomaa.Q
open Go.RowKit Go.Proofs.Ytdcdndfgdmcomaa.F Go.Proofs.YtdcdndfgdmcomaaW.PrintWords Go.Proofs.YtdcdndfgdmcomaaW.PrintLast Go.Proofs.YtdcdndfgdmcomaaW.PrintMore
theorem flatten_bulk : ∀ (m : List (List Int)), m.flatten.length = bulk m
  | [] => rfl
  | r :: m => by rw [List.flatten_cons, List.length_append, flatten_bulk m]; rfl
end Go.Proofs.Ytdcdndfgdmcomaa.Q

set_option linter.unusedVariables false
set_option linter.unusedSimpArgs false
namespace Go.Proofs.Ytdcdndfgdmcomaa.Q
open Go.RowKit Go.Proofs.Ytdcdndfgdmcomaa.F Go.Proofs.YtdcdndfgdmcomaaW.PrintWords Go.Proofs.YtdcdndfgdmcomaaW.PrintLast Go.Proofs.YtdcdndfgdmcomaaW.PrintMore
theorem spec_l1In_eq (a b c : Int) : spec_l1In.f a b c = some (decide (b ≤ a ∧ a ≤ c)) := by
  unfold spec_l1In.f
  by_cases h : b ≤ a
  · rw [if_pos h]; simp [h]
  · rw [if_neg h]; simp [h]
end Go.Proofs.Ytdcdndfgdmcomaa.Q

set_option linter.unusedVariables false
set_option linter.unusedSimpArgs false
namespace Go.Proofs.Ytdcdndfgdmcomaa.Q
open Go.RowKit Go.Proofs.Ytdcdndfgdmcomaa.F Go.Proofs.YtdcdndfgdmcomaaW.PrintWords Go.Proofs.YtdcdndfgdmcomaaW.PrintLast Go.Proofs.YtdcdndfgdmcomaaW.PrintMore
theorem impl_sum_ev (l : List Int) (hl : l.length ≤ 1048576) (h : ∀ x ∈ l, 0 ≤ x ∧ x ≤ 1000000) : Ev (fun k => impl_sum.f k l) (isum l) := by
  unfold impl_sum.f
  have key : ∀ i, i ≤ l.length → ∀ s : Int, 0 ≤ s → s ≤ 1000000 * i → Ev (fun k => impl_sum.l0 k s l (l.length : Int) (i : Int)) (s + isum (l.drop i)) := by
    refine downTo l.length ?_ ?_
    · intro s a b
      refine Ev.step (fun k => by rw [impl_sum.l0]) ?_
      exact ev_neg (by omega) (ev_val (by rw [List.drop_length]; simp [isum]))
    · intro i hi ih s a b
      have hx := h _ (rd_mem l i hi)
      refine Ev.step (fun k => by rw [impl_sum.l0]) ?_
      refine ev_pos (by omega) (ev_pos (by omega) (ev_pos (by omega) ?_))
      rw [wrap_succ (by omega), wrap_id (by omega) (by omega)]
      refine ev_eq (ih _ (by omega) (by omega)) ?_
      rw [drop_rd l i hi]
      simp only [isum]; omega
  have := key 0 (by omega) 0 (by omega) (by omega)
  simpa using this
end Go.Proofs.Ytdcdndfgdmcomaa.Q

set_option linter.unusedVariables false
set_option linter.unusedSimpArgs false
namespace Go.Proofs.Ytdcdndfgdmcomaa.Q
open Go.RowKit Go.Proofs.Ytdcdndfgdmcomaa.F Go.Proofs.YtdcdndfgdmcomaaW.PrintWords Go.Proofs.YtdcdndfgdmcomaaW.PrintLast Go.Proofs.YtdcdndfgdmcomaaW.PrintMore
theorem spec_l2Size_ev (l : List Int) (hl : l.length ≤ 1048576) (h : ∀ x ∈ l, 0 ≤ x ∧ x ≤ 1000000) : Ev (fun k => spec_l2Size.f k l) (isum l) := by
  unfold spec_l2Size.f
  have key : ∀ i, i ≤ l.length → ∀ s : Int, 0 ≤ s → s ≤ 1000000 * i → Ev (fun k => spec_l2Size.l0 k l s (i : Int)) (s + isum (l.drop i)) := by
    refine downTo l.length ?_ ?_
    · intro s a b
      refine Ev.step (fun k => by rw [spec_l2Size.l0]) ?_
      exact ev_neg (by omega) (ev_val (by rw [List.drop_length]; simp [isum]))
    · intro i hi ih s a b
      have hx := h _ (rd_mem l i hi)
      refine Ev.step (fun k => by rw [spec_l2Size.l0]) ?_
      refine ev_pos (by omega) (ev_pos (by omega) ?_)
      rw [wrap_succ (by omega), wrap_id (by omega) (by omega)]
      refine ev_eq (ih _ (by omega) (by omega)) ?_
      rw [drop_rd l i hi]
      simp only [isum]; omega
  have := key 0 (by omega) 0 (by omega) (by omega)
  simpa using this
end Go.Proofs.Ytdcdndfgdmcomaa.Q

set_option linter.unusedVariables false
set_option linter.unusedSimpArgs false
namespace Go.Proofs.Ytdcdndfgdmcomaa.Q
open Go.RowKit Go.Proofs.Ytdcdndfgdmcomaa.F Go.Proofs.YtdcdndfgdmcomaaW.PrintWords Go.Proofs.YtdcdndfgdmcomaaW.PrintLast Go.Proofs.YtdcdndfgdmcomaaW.PrintMore
def at0 (l : List Int) (i : Int) : Int := if 0 ≤ i ∧ i < (l.length : Int) then rd l i else 0
theorem at0_nat (l : List Int) (i : Nat) (h : i < l.length) : at0 l (i : Int) = rd l (i : Int) := by unfold at0; rw [if_pos (by omega)]
theorem at0_out (l : List Int) (i : Int) (h : i < 0 ∨ (l.length : Int) ≤ i) : at0 l i = 0 := by unfold at0; rw [if_neg (by omega)]
theorem impl_within_eq (a b c : Int) : impl_within.f a b c = some (decide (b ≤ a ∧ a ≤ c)) := rfl
theorem impl_at_eq (l : List Int) (i : Int) (hl : l.length ≤ 1048576) : impl_at.f l i = some (at0 l i) := by
  unfold impl_at.f at0
  rw [wrap_id (by omega) (by omega), impl_within_eq]
  simp only [Option.bind_some]
  by_cases h : 0 ≤ i ∧ i < (l.length : Int)
  · rw [if_pos h, if_pos (by rw [decide_eq_true_eq]; omega), if_pos h.1, if_pos h.2]
  · rw [if_neg h, if_neg (by rw [decide_eq_true_eq]; omega)]
theorem spec_l2At_eq (l : List Int) (i : Int) : spec_l2At.f l i = some (at0 l i) := by
  unfold spec_l2At.f at0
  by_cases h1 : i < 0
  · rw [if_pos h1, if_neg (by omega)]
  · rw [if_neg h1]
    by_cases h2 : i ≥ (l.length : Int)
    · rw [if_pos h2, if_neg (by omega)]
    · rw [if_neg h2, if_pos (by omega), if_pos (by omega), if_pos (by omega)]
def partOk (prev s : Int) : List Int → Bool
  | [] => true
  | x :: l => decide (1 ≤ x ∧ x ≤ 9) && decide (x ≤ prev) && decide (s + x ≤ 9) && partOk x (s + x) l
def isPartition (l : List Int) : Bool := partOk 9 0 l
theorem partOk_sum {l : List Int} : ∀ {prev s : Int}, s ≤ 9 → partOk prev s l = true → s + isum l ≤ 9 ∧ s + l.length ≤ 9 ∧ ∀ x ∈ l, 1 ≤ x ∧ x ≤ 9 := by
  induction l with
  | nil => intro prev s h _; simp [isum, h]
  | cons x l ih =>
    intro prev s h hp
    simp only [partOk, Bool.and_eq_true, decide_eq_true_eq] at hp
    obtain ⟨⟨⟨h1, h2⟩, h3⟩, h4⟩ := hp
    obtain ⟨g1, g2, g3⟩ := ih h3 h4
    simp only [isum, List.length_cons]
    refine ⟨by omega, by omega, fun y hy => ?_⟩
    rcases List.mem_cons.1 hy with rfl | hy
    · exact h1
    · exact g3 y hy
theorem isPartition_bd {l : List Int} (h : isPartition l = true) : isum l ≤ 9 ∧ l.length ≤ 9 ∧ ∀ x ∈ l, 1 ≤ x ∧ x ≤ 9 := by
  obtain ⟨h1, h2, h3⟩ := partOk_sum (by omega) h
  exact ⟨by omega, by omega, h3⟩
theorem bool_not_t {X : Bool} (h : true = !X) : X = false := by cases X <;> simp_all
theorem bool_not_f {X : Bool} (h : false = !X) : X = true := by cases X <;> simp_all
def before (l : List Int) (i : Nat) : Int := match i with | 0 => 9 | i + 1 => rd l (i : Int)
theorem spec_IsPartition_ev (l : List Int) (hl : l.length ≤ 1048576) : Ev (fun k => spec_IsPartition.f k l) (isPartition l) := by
  have key : ∀ i, i ≤ l.length → ∀ s : Int, 0 ≤ s → s ≤ 9 → Ev (fun k => spec_IsPartition.l0 k l s (i : Int)) (partOk (before l i) s (l.drop i)) := by
    refine downTo l.length ?_ ?_
    · intro s a b
      refine Ev.step (fun k => by rw [spec_IsPartition.l0]) ?_
      exact ev_neg (by omega) (ev_val (by rw [List.drop_length]; rfl))
    · intro i hi ih s a b
      have hstep : ∀ c : Bool, (c = !(decide (1 ≤ rd l (i : Int) ∧ rd l (i : Int) ≤ 9) && decide (rd l (i : Int) ≤ before l i))) → Ev (fun k => spec_IsPartition.j1 k l s (i : Int) c) (partOk (before l i) s (l.drop i)) := by
        intro c hc
        refine Ev.step (fun k => by rw [spec_IsPartition.j1]) ?_
        rw [drop_rd l i hi]
        simp only [partOk]
        cases c with
        | true =>
          refine ev_pos rfl (ev_val ?_)
          have : (decide (1 ≤ rd l (i : Int) ∧ rd l (i : Int) ≤ 9) && decide (rd l (i : Int) ≤ before l i)) = false := bool_not_t hc
          rw [this]; rfl
        | false =>
          have hg : (decide (1 ≤ rd l (i : Int) ∧ rd l (i : Int) ≤ 9) && decide (rd l (i : Int) ≤ before l i)) = true := bool_not_f hc
          have h1 : 1 ≤ rd l (i : Int) ∧ rd l (i : Int) ≤ 9 := by simp only [Bool.and_eq_true, decide_eq_true_eq] at hg; exact hg.1
          rw [hg, Bool.true_and, wrap_id (i := s + rd l (i : Int)) (by omega) (by omega)]
          refine ev_neg (by simp) (ev_pos (by omega) (ev_pos (by omega) (ev_ite (fun h => ev_val ?_) (fun h => ?_))))
          · rw [decide_eq_false (by omega)]; rfl
          · rw [wrap_succ (by omega), decide_eq_true (by omega), Bool.true_and]
            exact ih _ (by omega) (by omega)
      refine Ev.step (fun k => by rw [spec_IsPartition.l0]) ?_
      refine ev_pos (by omega) (ev_pos (by omega) (ev_bindc (spec_l1In_eq _ _ _) (ev_ite (fun h => ?_) (fun h => ?_))))
      · cases i with
        | zero =>
          refine ev_neg (by omega) (hstep false ?_)
          rw [decide_eq_true_eq] at h
          have h' : rd l ((0 : Nat) : Int) ≤ before l 0 := by show _ ≤ (9 : Int); omega
          rw [decide_eq_true h, decide_eq_true h']; rfl
        | succ i =>
          have e : wrap64 (((i + 1 : Nat) : Int) - 1) = (i : Int) := by unfold wrap64; omega
          rw [e]
          refine ev_pos (by omega) (ev_pos (by omega) (ev_pos (by omega) (hstep _ ?_)))
          rw [h, Bool.true_and]
          show decide (rd l ((i + 1 : Nat) : Int) > rd l (i : Int)) = !decide (rd l ((i + 1 : Nat) : Int) ≤ rd l (i : Int))
          by_cases g : rd l ((i + 1 : Nat) : Int) ≤ rd l (i : Int)
          · rw [decide_eq_true g, decide_eq_false (by omega)]; rfl
          · rw [decide_eq_false g, decide_eq_true (by omega)]; rfl
      · refine hstep true ?_
        simp only [Bool.not_eq_true] at h
        rw [h]; rfl
  unfold spec_IsPartition.f isPartition
  have := key 0 (by omega) 0 (by omega) (by omega)
  rw [List.drop_zero] at this
  exact this
theorem impl_IsPartition_ev (l : List Int) (hl : l.length ≤ 1048576) : Ev (fun k => impl_IsPartition.f k l) (isPartition l) := by
  have key : ∀ i, i ≤ l.length → ∀ s : Int, 0 ≤ s → s ≤ 9 → Ev (fun k => impl_IsPartition.l0 k l s l (l.length : Int) (i : Int)) (partOk (before l i) s (l.drop i)) := by
    refine downTo l.length ?_ ?_
    · intro s a b
      refine Ev.step (fun k => by rw [impl_IsPartition.l0]) ?_
      exact ev_neg (by omega) (ev_val (by rw [List.drop_length]; rfl))
    · intro i hi ih s a b
      have hstep : ∀ c : Bool, (c = !(decide (1 ≤ rd l (i : Int) ∧ rd l (i : Int) ≤ 9) && decide (rd l (i : Int) ≤ before l i))) → Ev (fun k => impl_IsPartition.j1 k l s (rd l (i : Int)) l (l.length : Int) (i : Int) c) (partOk (before l i) s (l.drop i)) := by
        intro c hc
        refine Ev.step (fun k => by rw [impl_IsPartition.j1]) ?_
        rw [drop_rd l i hi]
        simp only [partOk]
        cases c with
        | true =>
          refine ev_pos rfl (ev_val ?_)
          have : (decide (1 ≤ rd l (i : Int) ∧ rd l (i : Int) ≤ 9) && decide (rd l (i : Int) ≤ before l i)) = false := bool_not_t hc
          rw [this]; rfl
        | false =>
          have hg : (decide (1 ≤ rd l (i : Int) ∧ rd l (i : Int) ≤ 9) && decide (rd l (i : Int) ≤ before l i)) = true := bool_not_f hc
          have h1 : 1 ≤ rd l (i : Int) ∧ rd l (i : Int) ≤ 9 := by simp only [Bool.and_eq_true, decide_eq_true_eq] at hg; exact hg.1
          rw [hg, Bool.true_and, wrap_id (i := s + rd l (i : Int)) (by omega) (by omega)]
          refine ev_neg (by simp) (ev_ite (fun h => ev_val ?_) (fun h => ?_))
          · rw [decide_eq_false (by omega)]; rfl
          · rw [wrap_succ (by omega), decide_eq_true (by omega), Bool.true_and]
            exact ih _ (by omega) (by omega)
      refine Ev.step (fun k => by rw [impl_IsPartition.l0]) ?_
      refine ev_pos (by omega) (ev_pos (by omega) (ev_pos (by omega) (ev_bindc (impl_within_eq _ _ _) (ev_ite (fun h => ?_) (fun h => ?_)))))
      · cases i with
        | zero =>
          refine ev_neg (by omega) (hstep false ?_)
          rw [decide_eq_true_eq] at h
          have h' : rd l ((0 : Nat) : Int) ≤ before l 0 := by show _ ≤ (9 : Int); omega
          rw [decide_eq_true h, decide_eq_true h']; rfl
        | succ i =>
          have e : wrap64 (((i + 1 : Nat) : Int) - 1) = (i : Int) := by unfold wrap64; omega
          rw [e]
          refine ev_pos (by omega) (ev_pos (by omega) (ev_pos (by omega) (hstep _ ?_)))
          rw [h, Bool.true_and]
          show decide (rd l ((i + 1 : Nat) : Int) > rd l (i : Int)) = !decide (rd l ((i + 1 : Nat) : Int) ≤ rd l (i : Int))
          by_cases g : rd l ((i + 1 : Nat) : Int) ≤ rd l (i : Int)
          · rw [decide_eq_true g, decide_eq_false (by omega)]; rfl
          · rw [decide_eq_false g, decide_eq_true (by omega)]; rfl
      · refine hstep true ?_
        simp only [Bool.not_eq_true] at h
        rw [h]; rfl
  unfold impl_IsPartition.f isPartition
  have := key 0 (by omega) 0 (by omega) (by omega)
  rw [List.drop_zero] at this
  exact this
end Go.Proofs.Ytdcdndfgdmcomaa.Q

set_option linter.unusedVariables false
set_option linter.unusedSimpArgs false
namespace Go.Proofs.Ytdcdndfgdmcomaa.Q
open Go.RowKit Go.Proofs.Ytdcdndfgdmcomaa.F Go.Proofs.YtdcdndfgdmcomaaW.PrintWords Go.Proofs.YtdcdndfgdmcomaaW.PrintLast Go.Proofs.YtdcdndfgdmcomaaW.PrintMore
def isInside (q p : List Int) : Bool := isPartition q && isPartition p && (List.range q.length).all (fun i => decide (rd q (i : Int) ≤ at0 p (i : Int)))
theorem inside_all (q p : List Int) (i : Nat) : ((List.range q.length).all (fun i => decide (rd q (i : Int) ≤ at0 p (i : Int))) = true) ↔ ∀ j, j < q.length → rd q (j : Int) ≤ at0 p (j : Int) := by
  rw [List.all_eq_true]
  constructor
  · intro h j hj; have := h j (List.mem_range.2 hj); simpa using this
  · intro h j hj; simpa using h j (List.mem_range.1 hj)
theorem isInside_len {q p : List Int} (h : isInside q p = true) : isPartition q = true ∧ isPartition p = true ∧ q.length ≤ p.length ∧ ∀ j, j < q.length → rd q (j : Int) ≤ rd p (j : Int) := by
  unfold isInside at h
  simp only [Bool.and_eq_true] at h
  obtain ⟨⟨h1, h2⟩, h3⟩ := h
  rw [inside_all q p 0] at h3
  have hb := (isPartition_bd h1).2.2
  have hlen : q.length ≤ p.length := by
    apply Classical.byContradiction
    intro hn
    have := h3 p.length (by omega)
    rw [at0_out _ _ (.inr (by omega))] at this
    have := (hb _ (rd_mem q p.length (by omega))).1
    omega
  refine ⟨h1, h2, hlen, fun j hj => ?_⟩
  have := h3 j hj
  rwa [at0_nat p j (by omega)] at this
theorem impl_IsInside_ev (q p : List Int) (hq : q.length ≤ 1048576) (hp : p.length ≤ 1048576) : Ev (fun k => impl_IsInside.f k q p) (isInside q p) := by
  unfold impl_IsInside.f isInside
  refine Ev.bind (impl_IsPartition_ev q hq) (ev_ite (fun h1 => ?_) (fun h1 => ?_))
  · refine Ev.bind (impl_IsPartition_ev p hp) (Ev.step (fun k => by rw [impl_IsInside.j0]) ?_)
    rw [h1, Bool.true_and]
    by_cases h2 : isPartition p = true
    · rw [h2, Bool.true_and]
      refine ev_neg (by simp) ?_
      have key : ∀ i, i ≤ q.length → ∃ b, Ev (fun k => impl_IsInside.l0 k p q (q.length : Int) (i : Int)) b ∧ (b = true ↔ ∀ j, i ≤ j → j < q.length → rd q (j : Int) ≤ at0 p (j : Int)) := by
        refine downTo q.length ?_ ?_
        · refine ⟨true, ?_, by simp; intro j a b; omega⟩
          refine Ev.step (fun k => by rw [impl_IsInside.l0]) ?_
          exact ev_neg (by omega) (ev_val rfl)
        · rintro i hi ⟨b, hb, hiff⟩
          by_cases hc : rd q (i : Int) > at0 p (i : Int)
          · refine ⟨false, ?_, ?_⟩
            · refine Ev.step (fun k => by rw [impl_IsInside.l0]) ?_
              exact ev_pos (by omega) (ev_pos (by omega) (ev_pos (by omega) (ev_bindc (impl_at_eq p _ hp) (ev_pos hc (ev_val rfl)))))
            · constructor
              · intro h; cases h
              · intro h; have := h i (Nat.le_refl _) hi; omega
          · refine ⟨b, ?_, ?_⟩
            · refine Ev.step (fun k => by rw [impl_IsInside.l0]) ?_
              refine ev_pos (by omega) (ev_pos (by omega) (ev_pos (by omega) (ev_bindc (impl_at_eq p _ hp) (ev_neg hc ?_))))
              rw [wrap_succ (by omega)]; exact hb
            · rw [hiff]
              constructor
              · intro h j a c
                by_cases e : j = i
                · subst e; omega
                · exact h j (by omega) c
              · intro h j a c; exact h j (by omega) c
      obtain ⟨b, hb, hiff⟩ := key 0 (by omega)
      refine ev_eq hb ?_
      rw [Bool.eq_iff_iff, hiff, inside_all q p 0]
      exact ⟨fun h j hj => h j (by omega) hj, fun h j _ hj => h j hj⟩
    · simp only [Bool.not_eq_true] at h2
      rw [h2]
      exact ev_pos rfl (ev_val rfl)
  · simp only [Bool.not_eq_true] at h1
    rw [h1]
    refine Ev.step (fun k => by rw [impl_IsInside.j0]) ?_; exact ev_pos rfl (ev_val rfl)
theorem spec_IsInside_ev (q p : List Int) (hq : q.length ≤ 1048576) (hp : p.length ≤ 1048576) : Ev (fun k => spec_IsInside.f k q p) (isInside q p) := by
  unfold spec_IsInside.f isInside
  refine Ev.bind (spec_IsPartition_ev q hq) (ev_ite (fun h1 => ?_) (fun h1 => ?_))
  · refine Ev.bind (spec_IsPartition_ev p hp) (ev_ite (fun h2 => ?_) (fun h2 => ?_))
    · rw [h1, h2, Bool.true_and, Bool.true_and]
      refine Ev.step (fun k => by rw [spec_IsInside.j0]) ?_
      have hb := (isPartition_bd h1).2.2
      by_cases hl : (q.length : Int) > (p.length : Int)
      · refine ev_pos (decide_eq_true hl) (ev_val ?_)
        symm
        rw [Bool.eq_false_iff]
        intro h
        rw [inside_all q p 0] at h
        have := h p.length (by omega)
        rw [at0_out _ _ (.inr (by omega))] at this
        have := (hb _ (rd_mem q p.length (by omega))).1
        omega
      · refine ev_neg (by simpa using hl) ?_
        have key : ∀ i, i ≤ q.length → ∃ b, Ev (fun k => spec_IsInside.l0 k q p (i : Int)) b ∧ (b = true ↔ ∀ j, i ≤ j → j < q.length → rd q (j : Int) ≤ at0 p (j : Int)) := by
          refine downTo q.length ?_ ?_
          · refine ⟨true, ?_, by simp; intro j a b; omega⟩
            refine Ev.step (fun k => by rw [spec_IsInside.l0]) ?_
            exact ev_neg (by omega) (ev_val rfl)
          · rintro i hi ⟨b, hb, hiff⟩
            have ea := at0_nat p i (by omega)
            by_cases hc : rd q (i : Int) > rd p (i : Int)
            · refine ⟨false, ?_, ?_⟩
              · refine Ev.step (fun k => by rw [spec_IsInside.l0]) ?_
                exact ev_pos (by omega) (ev_pos (by omega) (ev_pos (by omega) (ev_pos hc (ev_val rfl))))
              · constructor
                · intro h; cases h
                · intro h; have := h i (Nat.le_refl _) hi; omega
            · refine ⟨b, ?_, ?_⟩
              · refine Ev.step (fun k => by rw [spec_IsInside.l0]) ?_
                refine ev_pos (by omega) (ev_pos (by omega) (ev_pos (by omega) (ev_neg hc ?_)))
                rw [wrap_succ (by omega)]; exact hb
              · rw [hiff]
                constructor
                · intro h j a c
                  by_cases e : j = i
                  · subst e; omega
                  · exact h j (by omega) c
                · intro h j a c; exact h j (by omega) c
        obtain ⟨b, hb, hiff⟩ := key 0 (by omega)
        refine ev_eq hb ?_
        rw [Bool.eq_iff_iff, hiff, inside_all q p 0]
        exact ⟨fun h j hj => h j (by omega) hj, fun h j _ hj => h j hj⟩
    · simp only [Bool.not_eq_true] at h2
      rw [h1, h2]
      refine Ev.step (fun k => by rw [spec_IsInside.j0]) ?_; exact ev_pos rfl (ev_val rfl)
  · simp only [Bool.not_eq_true] at h1
    rw [h1]
    refine Ev.step (fun k => by rw [spec_IsInside.j0]) ?_; exact ev_pos rfl (ev_val rfl)
theorem impl_IsShape_ev (o n : List Int) (ho : o.length ≤ 1048576) (hn : n.length ≤ 1048576) : Ev (fun k => impl_IsShape.f k o n) (isInside n o) := by
  unfold impl_IsShape.f
  exact Ev.bind (impl_IsInside_ev n o hn ho) (ev_val rfl)
theorem spec_IsShape_ev (o n : List Int) (ho : o.length ≤ 1048576) (hn : n.length ≤ 1048576) : Ev (fun k => spec_IsShape.f k o n) (isInside n o) := by
  unfold spec_IsShape.f
  exact Ev.bind (spec_IsInside_ev n o hn ho) (ev_val rfl)
end Go.Proofs.Ytdcdndfgdmcomaa.Q

set_option linter.unusedVariables false
set_option linter.unusedSimpArgs false
namespace Go.Proofs.Ytdcdndfgdmcomaa.Q
open Go.RowKit Go.Proofs.Ytdcdndfgdmcomaa.F Go.Proofs.YtdcdndfgdmcomaaW.PrintWords Go.Proofs.YtdcdndfgdmcomaaW.PrintLast Go.Proofs.YtdcdndfgdmcomaaW.PrintMore
def reachOf (n : List Int) (m : List (List Int)) (i : Nat) : Int := at0 n (i : Int) + ((rd_L1 m (i : Int)).length : Int)
def outerOf (n : List Int) (m : List (List Int)) : List Int := (List.range m.length).map (reachOf n m)
def hasShape (n : List Int) (m : List (List Int)) : Bool := isPartition n && decide (n.length ≤ m.length) && isInside n (outerOf n m)
def shapeOf (n : List Int) (m : List (List Int)) : List Int × List Int × Bool := if hasShape n m then (outerOf n m, n, true) else ([], [], false)
theorem outerOf_length (n : List Int) (m : List (List Int)) : (outerOf n m).length = m.length := by simp [outerOf]
theorem outerOf_rd (n : List Int) (m : List (List Int)) (i : Nat) (h : i < m.length) : rd (outerOf n m) (i : Int) = at0 n (i : Int) + ((rd_L1 m (i : Int)).length : Int) := by
  rw [rd_eq _ i (by rw [outerOf_length]; exact h)]
  simp [outerOf, reachOf]
theorem at0_bd {n : List Int} (h : isPartition n = true) (i : Int) : 0 ≤ at0 n i ∧ at0 n i ≤ 9 := by
  have hb := (isPartition_bd h).2.2
  unfold at0
  split
  · rename_i hi
    obtain ⟨j, rfl⟩ : ∃ j : Nat, i = (j : Int) := ⟨i.toNat, by omega⟩
    have := hb _ (rd_mem n j (by omega))
    omega
  · omega
theorem hasShape_bd {n : List Int} {m : List (List Int)} (h : hasShape n m = true) : isPartition n = true ∧ n.length ≤ m.length ∧ m.length ≤ 9 ∧ isPartition (outerOf n m) = true ∧ (∀ i, i < m.length → 1 ≤ at0 n (i : Int) + ((rd_L1 m (i : Int)).length : Int) ∧ at0 n (i : Int) + ((rd_L1 m (i : Int)).length : Int) ≤ 9) := by
  unfold hasShape at h
  simp only [Bool.and_eq_true, decide_eq_true_eq] at h
  obtain ⟨⟨h1, h2⟩, h3⟩ := h
  obtain ⟨_, h4, _, _⟩ := isInside_len h3
  obtain ⟨_, g2, g3⟩ := isPartition_bd h4
  rw [outerOf_length] at g2
  refine ⟨h1, h2, g2, h4, fun i hi => ?_⟩
  have := g3 _ (rd_mem (outerOf n m) i (by rw [outerOf_length]; exact hi))
  rw [outerOf_rd n m i hi] at this
  exact this
theorem range_snoc' (n : List Int) (m : List (List Int)) (i : Nat) : (List.range (i + 1)).map (reachOf n m) = (List.range i).map (reachOf n m) ++ [reachOf n m i] := by simp [List.range_succ]
theorem impl_ShapeOf_ev (n : List Int) (m : List (List Int)) (hn : n.length ≤ 1048576) (hm : m.length ≤ 1048576) (hr : ∀ r ∈ m, r.length ≤ 1048576) : Ev (fun k => impl_ShapeOf.f k n m) (shapeOf n m) := by
  unfold impl_ShapeOf.f
  refine Ev.bind (impl_IsPartition_ev n hn) (ev_ite (fun h1 => ?_) (fun h1 => ?_))
  · refine Ev.step (fun k => by rw [impl_ShapeOf.j0]) ?_
    by_cases h2 : n.length ≤ m.length
    · refine ev_neg (by simpa using h2) (ev_bindc (b := n) (by unfold slices_Clone_int_int.f; rw [if_pos (by omega)]) ?_)
      have key : ∀ i, i ≤ m.length → Ev (fun k => impl_ShapeOf.l0 k m (m.length : Int) (i : Int) n m ((List.range i).map (reachOf n m)) n) (shapeOf n m) := by
        refine downTo m.length ?_ ?_
        · refine Ev.step (fun k => by rw [impl_ShapeOf.l0]) ?_
          refine ev_neg (by omega) (Ev.bind (impl_IsShape_ev (outerOf n m) n (by rw [outerOf_length]; omega) hn) (ev_ite (fun h3 => ?_) (fun h3 => ?_)))
          · refine ev_val ?_
            unfold shapeOf hasShape
            rw [h1, h3, decide_eq_true h2]; rfl
          · simp only [Bool.not_eq_true] at h3
            refine ev_val ?_
            unfold shapeOf hasShape
            rw [h3, Bool.and_false]; rfl
        · intro i hi ih
          have hb := at0_bd h1 (i : Int)
          have hl := hr _ (rows_mem m i hi)
          refine Ev.step (fun k => by rw [impl_ShapeOf.l0]) ?_
          refine ev_pos (by omega) (ev_pos (by omega) (ev_pos (by omega) (ev_bindc (impl_at_eq n _ hn) (ev_pos (by simp; omega) ?_))))
          rw [wrap_succ (by omega), wrap_id (by omega) (by omega)]
          rw [range_snoc', reachOf] at ih
          exact ih
      exact key 0 (by omega)
    · refine ev_pos (by simpa using h2) (ev_val ?_)
      unfold shapeOf hasShape
      rw [decide_eq_false h2, Bool.and_false]; rfl
  · simp only [Bool.not_eq_true] at h1
    refine Ev.step (fun k => by rw [impl_ShapeOf.j0]) ?_
    refine ev_pos rfl (ev_val ?_)
    unfold shapeOf hasShape
    rw [h1]; rfl
theorem spec_ShapeOf_ev (n : List Int) (m : List (List Int)) (hn : n.length ≤ 1048576) (hm : m.length ≤ 1048576) (hr : ∀ r ∈ m, r.length ≤ 1048576) : Ev (fun k => spec_ShapeOf.f k n m) (shapeOf n m) := by
  have hfalse : ∀ c : Bool, c = true → shapeOf n m = ([], [], false) → Ev (fun k => spec_ShapeOf.j0 k c n m n) (shapeOf n m) := by
    intro c hc hs
    refine Ev.step (fun k => by rw [spec_ShapeOf.j0]) ?_
    exact ev_pos hc (ev_val hs.symm)
  unfold spec_ShapeOf.f
  refine ev_bindc rfl (ev_pos (by simp; omega) (ev_bindc (b := n) (by simp) (Ev.bind (spec_IsPartition_ev n hn) (ev_ite (fun h1 => ev_ite (fun h2 => ?_) (fun h2 => ?_)) (fun h1 => ?_)))))
  · refine hfalse true rfl ?_
    unfold shapeOf hasShape
    rw [decide_eq_false (by omega), Bool.and_false]; rfl
  · by_cases h9 : (m.length : Int) > 9
    · refine hfalse _ (decide_eq_true h9) ?_
      unfold shapeOf
      rw [if_neg]
      intro h
      have := (hasShape_bd h).2.2.1
      omega
    · refine Ev.step (fun k => by rw [spec_ShapeOf.j0]) ?_
      refine ev_neg (by simpa using h9) ?_
      have key : ∀ i, i ≤ m.length → Ev (fun k => spec_ShapeOf.l0 k (i : Int) n m ((List.range i).map (reachOf n m)) n) (shapeOf n m) := by
        refine downTo m.length ?_ ?_
        · refine Ev.step (fun k => by rw [spec_ShapeOf.l0]) ?_
          refine ev_neg (by omega) (Ev.bind (spec_IsShape_ev (outerOf n m) n (by rw [outerOf_length]; omega) hn) (ev_ite (fun h3 => ?_) (fun h3 => ?_)))
          · refine ev_val ?_
            unfold shapeOf hasShape
            rw [h1, h3, decide_eq_true (show n.length ≤ m.length by omega)]; rfl
          · simp only [Bool.not_eq_true] at h3
            refine ev_val ?_
            unfold shapeOf hasShape
            rw [h3, Bool.and_false]; rfl
        · intro i hi ih
          have hb := at0_bd h1 (i : Int)
          have hl := hr _ (rows_mem m i hi)
          refine Ev.step (fun k => by rw [spec_ShapeOf.l0]) ?_
          refine ev_pos (by omega) (ev_bindc (spec_l2At_eq n _) (ev_pos (by omega) (ev_pos (by simp; omega) ?_)))
          rw [wrap_succ (by omega), wrap_id (by omega) (by omega)]
          rw [range_snoc', reachOf] at ih
          exact ih
      exact key 0 (by omega)
  · simp only [Bool.not_eq_true] at h1
    refine hfalse true rfl ?_
    unfold shapeOf hasShape
    rw [h1]; rfl
end Go.Proofs.Ytdcdndfgdmcomaa.Q

set_option linter.unusedVariables false
set_option linter.unusedSimpArgs false
namespace Go.Proofs.Ytdcdndfgdmcomaa.Q
open Go.RowKit Go.Proofs.Ytdcdndfgdmcomaa.F Go.Proofs.YtdcdndfgdmcomaaW.PrintWords Go.Proofs.YtdcdndfgdmcomaaW.PrintLast Go.Proofs.YtdcdndfgdmcomaaW.PrintMore
def entryOf (n : List Int) (m : List (List Int)) (r c : Int) : Int := if 0 ≤ r ∧ r < (m.length : Int) then at0 (rd_L1 m r) (c - at0 n r) else 0
theorem impl_entry_eq (n : List Int) (m : List (List Int)) (r c : Int) (h1 : isPartition n = true) (hm : m.length ≤ 1048576) (hr : ∀ q ∈ m, q.length ≤ 1048576) (hc : -1000 ≤ c) (hc2 : c ≤ 2097152) : impl_Tableau_entry.f n m r c = some (entryOf n m r c) := by
  have hn := (isPartition_bd h1).2.1
  have hb := at0_bd h1 r
  unfold impl_Tableau_entry.f entryOf
  rw [wrap_id (by omega) (by omega), impl_within_eq]
  simp only [Option.bind_some]
  by_cases h : 0 ≤ r ∧ r < (m.length : Int)
  · obtain ⟨j, rfl⟩ : ∃ j : Nat, r = (j : Int) := ⟨r.toNat, by omega⟩
    rw [if_pos h, if_pos (by rw [decide_eq_true_eq]; omega), if_pos h.1, if_pos h.2, impl_at_eq n _ (by omega)]
    simp only [Option.bind_some]
    rw [wrap_id (by omega) (by omega), impl_at_eq _ _ (hr _ (rows_mem m j (by omega)))]
    rfl
  · rw [if_neg h, if_neg (by rw [decide_eq_true_eq]; omega)]
theorem spec_entry_ev (n : List Int) (m : List (List Int)) (r c : Int) (h1 : isPartition n = true) (hc : -1000 ≤ c) (hc2 : c ≤ 2097152) : Ev (fun k => spec_l5Entry.f k n m r c) (entryOf n m r c) := by
  have hb := at0_bd h1 r
  unfold spec_l5Entry.f entryOf
  refine ev_ite (fun h => ?_) (fun h => ?_)
  · refine Ev.step (fun k => by rw [spec_l5Entry.j0]) ?_
    exact ev_pos rfl (ev_val (by rw [if_neg (by omega)]))
  · refine Ev.step (fun k => by rw [spec_l5Entry.j0]) ?_
    refine ev_ite (fun h2 => ev_val ?_) (fun h2 => ?_)
    · rw [decide_eq_true_eq] at h2
      rw [if_neg (by omega)]
    · rw [decide_eq_true_eq] at h2
      rw [if_pos (by omega)]
      refine ev_bindc (spec_l2At_eq n r) ?_
      rw [wrap_id (by omega) (by omega)]
      unfold at0
      generalize rd_L1 m r = q
      generalize (if 0 ≤ r ∧ r < (n.length : Int) then rd n r else 0) = z
      refine ev_ite (fun h3 => ev_val (by rw [if_neg (by omega)])) (fun h3 => ev_pos (by omega) (ev_pos (by omega) (ev_ite (fun h4 => ev_val (by rw [if_neg (by omega)])) (fun h4 => ev_pos (by omega) (ev_pos (by omega) (ev_val (by rw [if_pos (by omega)])))))))
def CellOk (n : List Int) (m : List (List Int)) (i k : Nat) : Prop :=
  (1 ≤ rd (rd_L1 m (i : Int)) (k : Int) ∧ rd (rd_L1 m (i : Int)) (k : Int) ≤ 9) ∧ (0 < k → rd (rd_L1 m (i : Int)) ((k - 1 : Nat) : Int) ≤ rd (rd_L1 m (i : Int)) (k : Int)) ∧ (0 < i → entryOf n m ((i - 1 : Nat) : Int) (at0 n (i : Int) + k) < rd (rd_L1 m (i : Int)) (k : Int))
instance (n : List Int) (m : List (List Int)) (i k : Nat) : Decidable (CellOk n m i k) := by unfold CellOk; infer_instance
def isTab (n : List Int) (m : List (List Int)) : Bool := hasShape n m && (List.range m.length).all (fun i => (List.range (rd_L1 m (i : Int)).length).all (fun k => decide (CellOk n m i k)))
theorem isTab_iff {n : List Int} {m : List (List Int)} : isTab n m = true ↔ hasShape n m = true ∧ ∀ i, i < m.length → ∀ k, k < (rd_L1 m (i : Int)).length → CellOk n m i k := by
  unfold isTab
  rw [Bool.and_eq_true, List.all_eq_true]
  constructor
  · rintro ⟨h1, h2⟩
    refine ⟨h1, fun i hi k hk => ?_⟩
    have := h2 i (List.mem_range.2 hi)
    rw [List.all_eq_true] at this
    simpa using this k (List.mem_range.2 hk)
  · rintro ⟨h1, h2⟩
    refine ⟨h1, fun i hi => ?_⟩
    rw [List.all_eq_true]
    intro k hk
    simpa using h2 i (List.mem_range.1 hi) k (List.mem_range.1 hk)
theorem impl_IsTableau_l1 (n : List Int) (m : List (List Int)) (hs : hasShape n m = true) (hr : ∀ q ∈ m, q.length ≤ 1048576) (i : Nat) (hi : i < m.length) (b : Bool)
    (hnext : Ev (fun k => impl_IsTableau.l0 k m (m.length : Int) ((i + 1 : Nat) : Int) n m) b) :
    ∀ j, j ≤ (rd_L1 m (i : Int)).length → ∃ b', Ev (fun k => impl_IsTableau.l1 k (i : Int) (rd_L1 m (i : Int)) m (m.length : Int) (i : Int) (rd_L1 m (i : Int)) ((rd_L1 m (i : Int)).length : Int) (j : Int) n m) b' ∧ (b' = true ↔ (∀ k, j ≤ k → k < (rd_L1 m (i : Int)).length → CellOk n m i k) ∧ b = true) := by
  obtain ⟨h1, h2, h3, _, h5⟩ := hasShape_bd hs
  have hlen := hr _ (rows_mem m i hi)
  have hrow := h5 i hi
  have hb := at0_bd h1 (i : Int)
  refine downTo _ ?_ ?_
  · refine ⟨b, ?_, ?_⟩
    · refine Ev.step (fun k => by rw [impl_IsTableau.l1]) ?_
      refine ev_neg (by omega) ?_
      rw [wrap_succ (by omega)]; exact hnext
    · constructor
      · intro h; exact ⟨fun k a c => by omega, h⟩
      · intro h; exact h.2
  · rintro j hj ⟨b', hb', hiff⟩
    have hcell : (∀ k, j ≤ k → k < (rd_L1 m (i : Int)).length → CellOk n m i k) ↔ CellOk n m i j ∧ ∀ k, j + 1 ≤ k → k < (rd_L1 m (i : Int)).length → CellOk n m i k := by
      constructor
      · intro h; exact ⟨h j (Nat.le_refl _) hj, fun k a c => h k (by omega) c⟩
      · rintro ⟨h, h'⟩ k a c
        by_cases e : k = j
        · subst e; exact h
        · exact h' k (by omega) c
    have hup : wrap64 ((i : Int) - 1) = (i : Int) - 1 := wrap_id (by omega) (by omega)
    have hcol : wrap64 (at0 n (i : Int) + (j : Int)) = at0 n (i : Int) + j := wrap_id (by omega) (by omega)
    have tail : Ev (fun k => impl_IsTableau.l1 k (i : Int) (rd_L1 m (i : Int)) m (m.length : Int) (i : Int) (rd_L1 m (i : Int)) ((rd_L1 m (i : Int)).length : Int) (wrap64 ((j : Int) + 1)) n m) b' := by
      rw [wrap_succ (by omega)]; exact hb'
    by_cases c1 : 1 ≤ rd (rd_L1 m (i : Int)) (j : Int) ∧ rd (rd_L1 m (i : Int)) (j : Int) ≤ 9
    · by_cases c2 : 0 < j → rd (rd_L1 m (i : Int)) ((j - 1 : Nat) : Int) ≤ rd (rd_L1 m (i : Int)) (j : Int)
      · by_cases c3 : 0 < i → entryOf n m ((i - 1 : Nat) : Int) (at0 n (i : Int) + j) < rd (rd_L1 m (i : Int)) (j : Int)
        · refine ⟨b', ?_, ?_⟩
          · refine Ev.step (fun k => by rw [impl_IsTableau.l1]) ?_
            refine ev_pos (by omega) (ev_pos (by omega) (ev_pos (by omega) (ev_bindc (impl_within_eq _ _ _) (ev_pos (decide_eq_true c1) ?_))))
            have up : Ev (fun k => if (i : Int) > 0 then ((impl_at.f n (i : Int)).bind fun t222 => ((impl_Tableau_entry.f n m (wrap64 ((i : Int) - 1)) (wrap64 (t222 + (j : Int)))).bind fun t223 => (if (rd (rd_L1 m (i : Int)) (j : Int)) ≤ t223 then (some false) else (impl_IsTableau.l1 k (i : Int) (rd_L1 m (i : Int)) m (m.length : Int) (i : Int) (rd_L1 m (i : Int)) ((rd_L1 m (i : Int)).length : Int) (wrap64 ((j : Int) + 1)) n m)))) else (impl_IsTableau.l1 k (i : Int) (rd_L1 m (i : Int)) m (m.length : Int) (i : Int) (rd_L1 m (i : Int)) ((rd_L1 m (i : Int)).length : Int) (wrap64 ((j : Int) + 1)) n m)) b' := by
              refine ev_ite (fun hp => ?_) (fun _ => tail)
              refine ev_bindc (impl_at_eq n _ (by omega)) ?_
              rw [hup, hcol]
              refine ev_bindc (impl_entry_eq n m _ _ h1 (by omega) hr (by omega) (by omega)) (ev_neg ?_ tail)
              have := c3 (by omega)
              rw [show ((i - 1 : Nat) : Int) = (i : Int) - 1 by omega] at this
              omega
            by_cases hj0 : (j : Int) > 0
            · have e : wrap64 ((j : Int) - 1) = ((j - 1 : Nat) : Int) := by unfold wrap64; omega
              rw [e]
              have := c2 (by omega)
              exact ev_pos hj0 (ev_pos (by omega) (ev_pos (by omega) (ev_neg (by omega) up)))
            · exact ev_neg hj0 up
          · rw [hiff, hcell]
            constructor
            · rintro ⟨g1, g2⟩; exact ⟨⟨⟨c1, c2, c3⟩, g1⟩, g2⟩
            · rintro ⟨⟨_, g1⟩, g2⟩; exact ⟨g1, g2⟩
        · have hi0 : 0 < i := Classical.byContradiction fun h => c3 (fun h' => absurd h' h)
          have hge : ¬ entryOf n m ((i - 1 : Nat) : Int) (at0 n (i : Int) + j) < rd (rd_L1 m (i : Int)) (j : Int) := fun h => c3 (fun _ => h)
          refine ⟨false, ?_, ?_⟩
          · refine Ev.step (fun k => by rw [impl_IsTableau.l1]) ?_
            refine ev_pos (by omega) (ev_pos (by omega) (ev_pos (by omega) (ev_bindc (impl_within_eq _ _ _) (ev_pos (decide_eq_true c1) ?_))))
            have up : Ev (fun k => if (i : Int) > 0 then ((impl_at.f n (i : Int)).bind fun t222 => ((impl_Tableau_entry.f n m (wrap64 ((i : Int) - 1)) (wrap64 (t222 + (j : Int)))).bind fun t223 => (if (rd (rd_L1 m (i : Int)) (j : Int)) ≤ t223 then (some false) else (impl_IsTableau.l1 k (i : Int) (rd_L1 m (i : Int)) m (m.length : Int) (i : Int) (rd_L1 m (i : Int)) ((rd_L1 m (i : Int)).length : Int) (wrap64 ((j : Int) + 1)) n m)))) else (impl_IsTableau.l1 k (i : Int) (rd_L1 m (i : Int)) m (m.length : Int) (i : Int) (rd_L1 m (i : Int)) ((rd_L1 m (i : Int)).length : Int) (wrap64 ((j : Int) + 1)) n m)) false := by
              refine ev_pos (by omega) (ev_bindc (impl_at_eq n _ (by omega)) ?_)
              rw [hup, hcol]
              refine ev_bindc (impl_entry_eq n m _ _ h1 (by omega) hr (by omega) (by omega)) (ev_pos ?_ (ev_val rfl))
              rw [show ((i - 1 : Nat) : Int) = (i : Int) - 1 by omega] at hge
              omega
            by_cases hj0 : (j : Int) > 0
            · have e : wrap64 ((j : Int) - 1) = ((j - 1 : Nat) : Int) := by unfold wrap64; omega
              rw [e]
              have := c2 (by omega)
              exact ev_pos hj0 (ev_pos (by omega) (ev_pos (by omega) (ev_neg (by omega) up)))
            · exact ev_neg hj0 up
          · rw [hcell]
            constructor
            · intro h; cases h
            · rintro ⟨⟨⟨_, _, g⟩, _⟩, _⟩; exact absurd g c3
      · have hj0 : 0 < j := Classical.byContradiction fun h => c2 (fun h' => absurd h' h)
        have hlt : ¬ rd (rd_L1 m (i : Int)) ((j - 1 : Nat) : Int) ≤ rd (rd_L1 m (i : Int)) (j : Int) := fun h => c2 (fun _ => h)
        refine ⟨false, ?_, ?_⟩
        · refine Ev.step (fun k => by rw [impl_IsTableau.l1]) ?_
          have e : wrap64 ((j : Int) - 1) = ((j - 1 : Nat) : Int) := by unfold wrap64; omega
          rw [e]
          exact ev_pos (by omega) (ev_pos (by omega) (ev_pos (by omega) (ev_bindc (impl_within_eq _ _ _) (ev_pos (decide_eq_true c1) (ev_pos (by omega) (ev_pos (by omega) (ev_pos (by omega) (ev_pos (by omega) (ev_val rfl)))))))))
        · rw [hcell]
          constructor
          · intro h; cases h
          · rintro ⟨⟨⟨_, g, _⟩, _⟩, _⟩; exact absurd g c2
    · refine ⟨false, ?_, ?_⟩
      · refine Ev.step (fun k => by rw [impl_IsTableau.l1]) ?_
        exact ev_pos (by omega) (ev_pos (by omega) (ev_pos (by omega) (ev_bindc (impl_within_eq _ _ _) (ev_neg (by rw [decide_eq_true_eq]; exact c1) (ev_val rfl)))))
      · rw [hcell]
        constructor
        · intro h; cases h
        · rintro ⟨⟨⟨g, _, _⟩, _⟩, _⟩; exact absurd g c1
theorem impl_IsTableau_ev (n : List Int) (m : List (List Int)) (hn : n.length ≤ 1048576) (hm : m.length ≤ 1048576) (hr : ∀ r ∈ m, r.length ≤ 1048576) : Ev (fun k => impl_IsTableau.f k n m) (isTab n m) := by
  unfold impl_IsTableau.f
  refine Ev.bind (impl_ShapeOf_ev n m hn hm hr) ?_
  by_cases hs : hasShape n m = true
  · rw [show shapeOf n m = (outerOf n m, n, true) by unfold shapeOf; rw [if_pos hs]]
    refine ev_pos rfl ?_
    have key : ∀ i, i ≤ m.length → ∃ b, Ev (fun k => impl_IsTableau.l0 k m (m.length : Int) (i : Int) n m) b ∧ (b = true ↔ ∀ i', i ≤ i' → i' < m.length → ∀ k, k < (rd_L1 m (i' : Int)).length → CellOk n m i' k) := by
      refine downTo m.length ?_ ?_
      · refine ⟨true, ?_, by simp; intro i' a b; omega⟩
        refine Ev.step (fun k => by rw [impl_IsTableau.l0]) ?_
        exact ev_neg (by omega) (ev_val rfl)
      · rintro i hi ⟨b, hb, hiff⟩
        obtain ⟨b', hb', hiff'⟩ := impl_IsTableau_l1 n m hs hr i hi b hb 0 (by omega)
        refine ⟨b', ?_, ?_⟩
        · refine Ev.step (fun k => by rw [impl_IsTableau.l0]) ?_
          exact ev_pos (by omega) (ev_pos (by omega) (ev_pos (by omega) hb'))
        · rw [hiff', hiff]
          constructor
          · rintro ⟨g1, g2⟩ i' a c k hk
            by_cases e : i' = i
            · subst e; exact g1 k (by omega) hk
            · exact g2 i' (by omega) c k hk
          · intro g; exact ⟨fun k _ hk => g i (Nat.le_refl _) hi k hk, fun i' a c k hk => g i' (by omega) c k hk⟩
    obtain ⟨b, hb, hiff⟩ := key 0 (by omega)
    refine ev_eq hb ?_
    rw [Bool.eq_iff_iff, hiff, isTab_iff]
    exact ⟨fun g => ⟨hs, fun i hi k hk => g i (by omega) hi k hk⟩, fun g i _ hi k hk => g.2 i hi k hk⟩
  · rw [show shapeOf n m = ([], [], false) by unfold shapeOf; rw [if_neg hs]]
    refine ev_neg (by simp) (ev_val ?_)
    simp only [Bool.not_eq_true] at hs
    unfold isTab; rw [hs]; rfl
theorem entryOf_cell (n : List Int) (m : List (List Int)) (i j : Nat) (hi : i < m.length) (hj : j < (rd_L1 m (i : Int)).length) : entryOf n m (i : Int) (at0 n (i : Int) + j) = rd (rd_L1 m (i : Int)) (j : Int) := by
  unfold entryOf
  rw [if_pos (by omega), show at0 n (i : Int) + (j : Int) - at0 n (i : Int) = (j : Int) by omega, at0_nat _ j hj]
theorem entryOf_left (n : List Int) (m : List (List Int)) (i j : Nat) (hi : i < m.length) (hj : j < (rd_L1 m (i : Int)).length) : entryOf n m (i : Int) (at0 n (i : Int) + j - 1) = if 0 < j then rd (rd_L1 m (i : Int)) ((j - 1 : Nat) : Int) else 0 := by
  unfold entryOf
  rw [if_pos (by omega)]
  by_cases h : 0 < j
  · rw [if_pos h, show at0 n (i : Int) + (j : Int) - 1 - at0 n (i : Int) = ((j - 1 : Nat) : Int) by omega, at0_nat _ (j - 1) (by omega)]
  · rw [if_neg h, at0_out _ _ (.inl (by omega))]
theorem spec_IsTableau_l1 (n : List Int) (m : List (List Int)) (hs : hasShape n m = true) (i : Nat) (hi : i < m.length) (b : Bool)
    (hnext : Ev (fun k => spec_IsTableau.l0 k ((i + 1 : Nat) : Int) n m (outerOf n m) n) b) :
    ∀ j, j ≤ (rd_L1 m (i : Int)).length → ∃ b', Ev (fun k => spec_IsTableau.l1 k (i : Int) (at0 n (i : Int) + (j : Int)) n m (outerOf n m) n) b' ∧ (b' = true ↔ (∀ k, j ≤ k → k < (rd_L1 m (i : Int)).length → CellOk n m i k) ∧ b = true) := by
  obtain ⟨h1, h2, h3, _, h5⟩ := hasShape_bd hs
  have hrow := h5 i hi
  have hb := at0_bd h1 (i : Int)
  have hol := outerOf_length n m
  have hor := outerOf_rd n m i hi
  refine downTo _ ?_ ?_
  · refine ⟨b, ?_, ?_⟩
    · refine Ev.step (fun k => by rw [spec_IsTableau.l1]) ?_
      refine ev_pos (by omega) (ev_pos (by omega) (ev_neg (by omega) ?_))
      rw [wrap_succ (by omega)]; exact hnext
    · constructor
      · intro h; exact ⟨fun k a c => by omega, h⟩
      · intro h; exact h.2
  · rintro j hj ⟨b', hb', hiff⟩
    have hcell : (∀ k, j ≤ k → k < (rd_L1 m (i : Int)).length → CellOk n m i k) ↔ CellOk n m i j ∧ ∀ k, j + 1 ≤ k → k < (rd_L1 m (i : Int)).length → CellOk n m i k := by
      constructor
      · intro h; exact ⟨h j (Nat.le_refl _) hj, fun k a c => h k (by omega) c⟩
      · rintro ⟨h, h'⟩ k a c
        by_cases e : k = j
        · subst e; exact h
        · exact h' k (by omega) c
    have hx := entryOf_cell n m i j hi hj
    have hleft := entryOf_left n m i j hi hj
    have hup : wrap64 ((i : Int) - 1) = (i : Int) - 1 := wrap_id (by omega) (by omega)
    have hc1 : wrap64 (at0 n (i : Int) + (j : Int) - 1) = at0 n (i : Int) + j - 1 := wrap_id (by omega) (by omega)
    have hc2 : wrap64 (at0 n (i : Int) + (j : Int) + 1) = at0 n (i : Int) + ((j + 1 : Nat) : Int) := by rw [wrap_id (by omega) (by omega)]; omega
    have hj2 : ∀ left : Int, left = (if 0 < j then rd (rd_L1 m (i : Int)) ((j - 1 : Nat) : Int) else 0) → ∃ v, Ev (fun k => spec_IsTableau.j2 k (i : Int) (at0 n (i : Int) + (j : Int)) (rd (rd_L1 m (i : Int)) (j : Int)) left n m (outerOf n m) n) v ∧ (v = true ↔ (∀ k, j ≤ k → k < (rd_L1 m (i : Int)).length → CellOk n m i k) ∧ b = true) := by
      intro left hl
      rw [hcell]
      by_cases c1 : 1 ≤ rd (rd_L1 m (i : Int)) (j : Int) ∧ rd (rd_L1 m (i : Int)) (j : Int) ≤ 9
      · by_cases c2 : left > rd (rd_L1 m (i : Int)) (j : Int)
        · refine ⟨false, ?_, ?_⟩
          · refine Ev.step (fun k => by rw [spec_IsTableau.j2]) ?_
            exact ev_bindc (spec_l1In_eq _ _ _) (ev_pos (decide_eq_true c1) (ev_pos c2 (ev_val rfl)))
          · constructor
            · intro h; cases h
            · rintro ⟨⟨⟨_, g, _⟩, _⟩, _⟩
              exfalso
              by_cases hj0 : 0 < j
              · rw [if_pos hj0] at hl; have := g hj0; omega
              · rw [if_neg hj0] at hl; omega
        · by_cases c3 : entryOf n m ((i : Int) - 1) (at0 n (i : Int) + j) ≥ rd (rd_L1 m (i : Int)) (j : Int)
          · refine ⟨false, ?_, ?_⟩
            · refine Ev.step (fun k => by rw [spec_IsTableau.j2]) ?_
              rw [hup]
              exact ev_bindc (spec_l1In_eq _ _ _) (ev_pos (decide_eq_true c1) (ev_neg c2 (Ev.bind (spec_entry_ev n m _ _ h1 (by omega) (by omega)) (ev_pos c3 (ev_val rfl)))))
            · constructor
              · intro h; cases h
              · rintro ⟨⟨⟨_, _, g⟩, _⟩, _⟩
                exfalso
                by_cases hi0 : 0 < i
                · have := g hi0
                  rw [show ((i - 1 : Nat) : Int) = (i : Int) - 1 by omega] at this
                  omega
                · have : entryOf n m ((i : Int) - 1) (at0 n (i : Int) + j) = 0 := by unfold entryOf; rw [if_neg (by omega)]
                  omega
          · refine ⟨b', ?_, ?_⟩
            · refine Ev.step (fun k => by rw [spec_IsTableau.j2]) ?_
              rw [hup, hc2]
              exact ev_bindc (spec_l1In_eq _ _ _) (ev_pos (decide_eq_true c1) (ev_neg c2 (Ev.bind (spec_entry_ev n m _ _ h1 (by omega) (by omega)) (ev_neg c3 hb'))))
            · rw [hiff]
              constructor
              · rintro ⟨g1, g2⟩
                refine ⟨⟨⟨c1, fun hj0 => ?_, fun hi0 => ?_⟩, g1⟩, g2⟩
                · rw [if_pos hj0] at hl; omega
                · rw [show ((i - 1 : Nat) : Int) = (i : Int) - 1 by omega]; omega
              · rintro ⟨⟨_, g1⟩, g2⟩; exact ⟨g1, g2⟩
      · refine ⟨false, ?_, ?_⟩
        · refine Ev.step (fun k => by rw [spec_IsTableau.j2]) ?_
          exact ev_bindc (spec_l1In_eq _ _ _) (ev_neg (by rw [decide_eq_true_eq]; exact c1) (ev_val rfl))
        · constructor
          · intro h; cases h
          · rintro ⟨⟨⟨g, _, _⟩, _⟩, _⟩; exact absurd g c1
    obtain ⟨v, hv, hvi⟩ := hj2 _ rfl
    refine ⟨v, ?_, hvi⟩
    refine Ev.step (fun k => by rw [spec_IsTableau.l1]) ?_
    rw [hc1]
    have e1 := spec_entry_ev n m (i : Int) (at0 n (i : Int) + j) h1 (by omega) (by omega)
    rw [hx] at e1
    refine ev_pos (by omega) (ev_pos (by omega) (ev_pos (by omega) (Ev.bind e1 (ev_ite (fun hp => ?_) (fun hp => ?_)))))
    · have e2 := spec_entry_ev n m (i : Int) (at0 n (i : Int) + j - 1) h1 (by omega) (by omega)
      rw [hleft] at e2
      exact Ev.bind e2 hv
    · have : (if 0 < j then rd (rd_L1 m (i : Int)) ((j - 1 : Nat) : Int) else 0) = 0 := by rw [if_neg (by omega)]
      rw [this] at hv
      exact hv
theorem spec_IsTableau_ev (n : List Int) (m : List (List Int)) (hn : n.length ≤ 1048576) (hm : m.length ≤ 1048576) (hr : ∀ r ∈ m, r.length ≤ 1048576) : Ev (fun k => spec_IsTableau.f k n m) (isTab n m) := by
  unfold spec_IsTableau.f
  refine Ev.bind (spec_ShapeOf_ev n m hn hm hr) ?_
  by_cases hs : hasShape n m = true
  · rw [show shapeOf n m = (outerOf n m, n, true) by unfold shapeOf; rw [if_pos hs]]
    refine ev_pos rfl ?_
    have hol := outerOf_length n m
    have key : ∀ i, i ≤ m.length → ∃ b, Ev (fun k => spec_IsTableau.l0 k (i : Int) n m (outerOf n m) n) b ∧ (b = true ↔ ∀ i', i ≤ i' → i' < m.length → ∀ k, k < (rd_L1 m (i' : Int)).length → CellOk n m i' k) := by
      refine downTo m.length ?_ ?_
      · refine ⟨true, ?_, by simp; intro i' a b; omega⟩
        refine Ev.step (fun k => by rw [spec_IsTableau.l0]) ?_
        exact ev_neg (by omega) (ev_val rfl)
      · rintro i hi ⟨b, hb, hiff⟩
        obtain ⟨b', hb', hiff'⟩ := spec_IsTableau_l1 n m hs i hi b hb 0 (by omega)
        refine ⟨b', ?_, ?_⟩
        · refine Ev.step (fun k => by rw [spec_IsTableau.l0]) ?_
          refine ev_pos (by omega) (ev_bindc (spec_l2At_eq n _) ?_)
          simpa using hb'
        · rw [hiff', hiff]
          constructor
          · rintro ⟨g1, g2⟩ i' a c k hk
            by_cases e : i' = i
            · subst e; exact g1 k (by omega) hk
            · exact g2 i' (by omega) c k hk
          · intro g; exact ⟨fun k _ hk => g i (Nat.le_refl _) hi k hk, fun i' a c k hk => g i' (by omega) c k hk⟩
    obtain ⟨b, hb, hiff⟩ := key 0 (by omega)
    refine ev_eq hb ?_
    rw [Bool.eq_iff_iff, hiff, isTab_iff]
    exact ⟨fun g => ⟨hs, fun i hi k hk => g i (by omega) hi k hk⟩, fun g i _ hi k hk => g.2 i hi k hk⟩
  · rw [show shapeOf n m = ([], [], false) by unfold shapeOf; rw [if_neg hs]]
    refine ev_neg (by simp) (ev_val ?_)
    simp only [Bool.not_eq_true] at hs
    unfold isTab; rw [hs]; rfl
end Go.Proofs.Ytdcdndfgdmcomaa.Q

set_option linter.unusedVariables false
set_option linter.unusedSimpArgs false
namespace Go.Proofs.Ytdcdndfgdmcomaa.Q
open Go.RowKit Go.Proofs.Ytdcdndfgdmcomaa.F Go.Proofs.YtdcdndfgdmcomaaW.PrintWords Go.Proofs.YtdcdndfgdmcomaaW.PrintLast Go.Proofs.YtdcdndfgdmcomaaW.PrintMore
theorem slices_Index_l0 (l : List Int) (x : Int) (hl : l.length ≤ 1048576) : ∀ i, i ≤ l.length → ∃ v, Ev (fun k => slices_Index_int_int.l0 k l x (l.length : Int) (i : Int)) v ∧ (0 ≤ v ↔ x ∈ l.drop i) := by
  refine downTo l.length ?_ ?_
  · refine ⟨-1, ?_, by simp⟩
    refine Ev.step (fun k => by rw [slices_Index_int_int.l0]) ?_
    exact ev_neg (by omega) (ev_val rfl)
  · rintro i hi ⟨v, hv, hm⟩
    by_cases hx : x = rd l (i : Int)
    · refine ⟨(i : Int), ?_, by rw [drop_rd l i hi, ← hx]; simp⟩
      refine Ev.step (fun k => by rw [slices_Index_int_int.l0]) ?_
      exact ev_pos (by omega) (ev_pos (by omega) (ev_pos (by omega) (ev_pos hx (ev_val rfl))))
    · refine ⟨v, ?_, by rw [hm, drop_rd l i hi, List.mem_cons]; simp [hx]⟩
      refine Ev.step (fun k => by rw [slices_Index_int_int.l0]) ?_
      refine ev_pos (by omega) (ev_pos (by omega) (ev_pos (by omega) (ev_neg hx ?_)))
      rw [wrap_succ (by omega)]; exact hv
theorem slices_Contains_ev (l : List Int) (x : Int) (hl : l.length ≤ 1048576) : Ev (fun k => slices_Contains_int_int.f k l x) (decide (x ∈ l)) := by
  unfold slices_Contains_int_int.f
  obtain ⟨v, hv, hm⟩ := slices_Index_l0 l x hl 0 (by omega)
  refine Ev.bind (f := fun _ t => some (decide (t ≥ 0))) hv (ev_val ?_)
  rw [List.drop_zero] at hm
  by_cases h : x ∈ l
  · rw [decide_eq_true h, decide_eq_true (hm.2 h)]
  · rw [decide_eq_false h, decide_eq_false (fun h' => h (hm.1 h'))]
end Go.Proofs.Ytdcdndfgdmcomaa.Q

set_option linter.unusedVariables false
set_option linter.unusedSimpArgs false
namespace Go.Proofs.Ytdcdndfgdmcomaa.Q
open Go.RowKit Go.Proofs.Ytdcdndfgdmcomaa.F Go.Proofs.YtdcdndfgdmcomaaW.PrintWords Go.Proofs.YtdcdndfgdmcomaaW.PrintLast Go.Proofs.YtdcdndfgdmcomaaW.PrintMore
def areOnce (l : List Int) : Bool := (List.range l.length).all (fun v => decide (((v + 1 : Nat) : Int) ∈ l))
theorem areOnce_iff {l : List Int} : areOnce l = true ↔ ∀ v : Nat, 1 ≤ v → v ≤ l.length → (v : Int) ∈ l := by
  unfold areOnce
  rw [List.all_eq_true]
  constructor
  · intro h v a b
    have := h (v - 1) (by rw [List.mem_range]; omega)
    rw [decide_eq_true_eq, show v - 1 + 1 = v by omega] at this
    exact this
  · intro h v hv
    rw [List.mem_range] at hv
    rw [decide_eq_true_eq]
    exact h (v + 1) (by omega) (by omega)
theorem impl_areOnce_ev (l : List Int) (hl : l.length ≤ 1048576) : Ev (fun k => impl_areOnce.f k l) (areOnce l) := by
  have key : ∀ i, i ≤ l.length → ∃ b, Ev (fun k => impl_areOnce.l0 k l ((i + 1 : Nat) : Int)) b ∧ (b = true ↔ ∀ v : Nat, i < v → v ≤ l.length → (v : Int) ∈ l) := by
    refine downTo l.length ?_ ?_
    · refine ⟨true, ?_, by simp; intro v a b; omega⟩
      refine Ev.step (fun k => by rw [impl_areOnce.l0]) ?_
      exact ev_neg (by omega) (ev_val rfl)
    · rintro i hi ⟨b, hb, ih⟩
      by_cases h : ((i + 1 : Nat) : Int) ∈ l
      · refine ⟨b, ?_, ?_⟩
        · refine Ev.step (fun k => by rw [impl_areOnce.l0]) ?_
          refine ev_pos (by omega) (Ev.bind (slices_Contains_ev l _ hl) (ev_pos (decide_eq_true h) ?_))
          rw [wrap_succ (by omega)]
          exact hb
        · rw [ih]
          constructor
          · intro g v a b
            by_cases e : v = i + 1
            · subst e; exact h
            · exact g v (by omega) b
          · intro g v a b; exact g v (by omega) b
      · refine ⟨false, ?_, by simp; exact ⟨i + 1, by omega, by omega, h⟩⟩
        refine Ev.step (fun k => by rw [impl_areOnce.l0]) ?_
        exact ev_pos (by omega) (Ev.bind (slices_Contains_ev l _ hl) (ev_neg (by simpa using h) (ev_val rfl)))
  unfold impl_areOnce.f
  obtain ⟨b, hb, ih⟩ := key 0 (by omega)
  refine ev_eq hb ?_
  rw [Bool.eq_iff_iff, ih, areOnce_iff]
  exact Iff.rfl
end Go.Proofs.Ytdcdndfgdmcomaa.Q

set_option linter.unusedVariables false
set_option linter.unusedSimpArgs false
namespace Go.Proofs.Ytdcdndfgdmcomaa.Q
open Go.RowKit Go.Proofs.Ytdcdndfgdmcomaa.F Go.Proofs.YtdcdndfgdmcomaaW.PrintWords Go.Proofs.YtdcdndfgdmcomaaW.PrintLast Go.Proofs.YtdcdndfgdmcomaaW.PrintMore
theorem slices_Concat_l1 (m : List (List Int)) (hm : m.length ≤ 1048576) (hb : bulk m ≤ 1048576) : ∀ i, i ≤ m.length → Ev (fun k => slices_Concat_int_int.l1 k (m.take i).flatten m (m.length : Int) (i : Int)) m.flatten := by
  refine downTo m.length ?_ ?_
  · refine Ev.step (fun k => by rw [slices_Concat_int_int.l1]) ?_
    exact ev_neg (by omega) (ev_val (by rw [List.take_length]))
  · intro i hi h
    have e : (m.take i).flatten ++ rd_L1 m (i : Int) = (m.take (i + 1)).flatten := by rw [take_rows m i hi, List.flatten_append]; simp
    have hl : (m.take i).flatten.length + (rd_L1 m (i : Int)).length ≤ bulk m := by
      rw [← List.length_append, e, ← flatten_bulk m, List.length_flatten, List.length_flatten, List.map_take]
      conv => rhs; rw [← List.take_append_drop (i + 1) (m.map List.length), List.sum_append]
      omega
    refine Ev.step (fun k => by rw [slices_Concat_int_int.l1]) ?_
    refine ev_pos (by omega) (ev_pos (by omega) (ev_pos (by omega) (ev_pos (by omega) ?_)))
    rw [e, wrap_succ (by omega)]
    exact h
theorem slices_Concat_l0 (m : List (List Int)) (hm : m.length ≤ 1048576) (hb : bulk m ≤ 1048576) : ∀ i, i ≤ m.length → Ev (fun k => slices_Concat_int_int.l0 k m (((m.take i).flatten.length : Nat) : Int) m (m.length : Int) (i : Int)) m.flatten := by
  refine downTo m.length ?_ ?_
  · refine Ev.step (fun k => by rw [slices_Concat_int_int.l0]) ?_
    refine ev_neg (by omega) ?_
    rw [List.take_length, flatten_bulk]
    refine ev_bindc (b := []) (by unfold slices_Grow_int_int.f; rw [if_pos ⟨rfl, by omega, by omega⟩]) ?_
    have := slices_Concat_l1 m hm hb 0 (by omega)
    simpa using this
  · intro i hi h
    have e : (m.take i).flatten ++ rd_L1 m (i : Int) = (m.take (i + 1)).flatten := by rw [take_rows m i hi, List.flatten_append]; simp
    have hl : (m.take i).flatten.length + (rd_L1 m (i : Int)).length ≤ bulk m := by
      rw [← List.length_append, e, ← flatten_bulk m, List.length_flatten, List.length_flatten, List.map_take]
      conv => rhs; rw [← List.take_append_drop (i + 1) (m.map List.length), List.sum_append]
      omega
    have e2 : wrap64 (((m.take i).flatten.length : Nat) + ((rd_L1 m (i : Int)).length : Int)) = (((m.take (i + 1)).flatten.length : Nat) : Int) := by
      rw [← e, List.length_append, wrap_id (by omega) (by omega)]; omega
    refine Ev.step (fun k => by rw [slices_Concat_int_int.l0]) ?_
    refine ev_pos (by omega) (ev_pos (by omega) (ev_pos (by omega) ?_))
    rw [e2, wrap_succ (by omega)]
    exact ev_neg (by omega) h
theorem slices_Concat_ev (m : List (List Int)) (hm : m.length ≤ 1048576) (hb : bulk m ≤ 1048576) : Ev (fun k => slices_Concat_int_int.f k m) m.flatten := by
  unfold slices_Concat_int_int.f
  have := slices_Concat_l0 m hm hb 0 (by omega)
  simpa using this
end Go.Proofs.Ytdcdndfgdmcomaa.Q

set_option linter.unusedVariables false
set_option linter.unusedSimpArgs false
namespace Go.Proofs.Ytdcdndfgdmcomaa.Q
open Go.RowKit Go.Proofs.Ytdcdndfgdmcomaa.F Go.Proofs.YtdcdndfgdmcomaaW.PrintWords Go.Proofs.YtdcdndfgdmcomaaW.PrintLast Go.Proofs.YtdcdndfgdmcomaaW.PrintMore
theorem spec_l5Numbers_ev (n : List Int) (m : List (List Int)) (hm : m.length ≤ 1048576) (hb : bulk m ≤ 1048576) : Ev (fun k => spec_l5Numbers.f k n m) m.flatten := by
  have key : ∀ i, i ≤ m.length → Ev (fun k => spec_l5Numbers.l0 k (m.take i).flatten (i : Int) n m) m.flatten := by
    refine downTo m.length ?_ ?_
    · refine Ev.step (fun k => by rw [spec_l5Numbers.l0]) ?_
      exact ev_neg (by omega) (ev_val (by rw [List.take_length]))
    · intro i hi h
      have e : (m.take i).flatten ++ rd_L1 m (i : Int) = (m.take (i + 1)).flatten := by rw [take_rows m i hi, List.flatten_append]; simp
      have hl : (m.take i).flatten.length + (rd_L1 m (i : Int)).length ≤ bulk m := by
        rw [← List.length_append, e, ← flatten_bulk m, List.length_flatten, List.length_flatten, List.map_take]
        conv => rhs; rw [← List.take_append_drop (i + 1) (m.map List.length), List.sum_append]
        omega
      refine Ev.step (fun k => by rw [spec_l5Numbers.l0]) ?_
      refine ev_pos (by omega) (ev_pos (by omega) (ev_pos (by omega) ?_))
      rw [e, wrap_succ (by omega)]
      exact h
  unfold spec_l5Numbers.f
  have := key 0 (by omega)
  simpa using this
end Go.Proofs.Ytdcdndfgdmcomaa.Q

set_option linter.unusedVariables false
set_option linter.unusedSimpArgs false
namespace Go.Proofs.Ytdcdndfgdmcomaa.Q
open Go.RowKit Go.Proofs.Ytdcdndfgdmcomaa.F Go.Proofs.YtdcdndfgdmcomaaW.PrintWords Go.Proofs.YtdcdndfgdmcomaaW.PrintLast Go.Proofs.YtdcdndfgdmcomaaW.PrintMore
def isStd (n : List Int) (m : List (List Int)) : Bool := isTab n m && areOnce m.flatten
theorem isTab_cells {n : List Int} {m : List (List Int)} (h : isTab n m = true) : m.length ≤ 9 ∧ (∀ r ∈ m, r.length ≤ 9) ∧ ∀ x ∈ m.flatten, 1 ≤ x ∧ x ≤ 9 := by
  obtain ⟨hs, hc⟩ := isTab_iff.1 h
  obtain ⟨h1, _, h3, _, h5⟩ := hasShape_bd hs
  have hr : ∀ r ∈ m, r.length ≤ 9 := by
    intro r hr
    obtain ⟨i, hi, rfl⟩ := List.mem_iff_getElem.1 hr
    have := h5 i hi
    rw [rows_eq m i hi] at this
    have := at0_bd h1 (i : Int)
    omega
  refine ⟨h3, hr, ?_⟩
  intro x hx
  obtain ⟨r, hrm, hxr⟩ := List.mem_flatten.1 hx
  obtain ⟨i, hi, rfl⟩ := List.mem_iff_getElem.1 hrm
  obtain ⟨j, hj, rfl⟩ := List.mem_iff_getElem.1 hxr
  have := (hc i hi j (by rw [rows_eq m i hi]; exact hj)).1
  rw [rows_eq m i hi, rd_eq _ j hj] at this
  exact this
theorem rdOf_set (l : List Bool) (i j : Nat) (h : i < l.length) : rdOf false (l.set i true) (j : Int) = if i = j then true else rdOf false l (j : Int) := by
  unfold rdOf
  rw [Int.toNat_natCast, List.getD_eq_getElem?_getD, List.getD_eq_getElem?_getD, List.getElem?_set]
  by_cases e : i = j
  · subst e; simp [h]
  · simp [e]
theorem spec_std_l0 (L : List Int) (h9 : ∀ x ∈ L, 1 ≤ x ∧ x ≤ 9) (hl : L.length ≤ 1048576) : ∀ (d i : Nat) (seen : List Bool), i + d = L.length → seen.length = 10 → (∀ v : Nat, v < 10 → (rdOf false seen (v : Int) = true ↔ (v : Int) ∈ L.take i)) → (L.take i).Nodup → (∀ x ∈ L.take i, x ≤ (L.length : Int)) →
    Ev (fun k => spec_IsStandard.l0 k L seen (i : Int)) (decide (L.Nodup ∧ ∀ x ∈ L, x ≤ (L.length : Int)))
  | 0, i, seen, hi, _, _, hd, hx => by
    have e : i = L.length := by omega
    subst e
    rw [List.take_length] at hd hx
    refine Ev.step (fun k => by rw [spec_IsStandard.l0]) ?_
    exact ev_neg (by omega) (ev_val (decide_eq_true ⟨hd, hx⟩).symm)
  | d + 1, i, seen, hi, hs, hv, hd, hx => by
    have hlt : i < L.length := by omega
    obtain ⟨b1, b2⟩ := h9 _ (rd_mem L i hlt)
    have ht := take_rd L i hlt
    have hmem := rd_mem L i hlt
    obtain ⟨y, hy⟩ : ∃ y, y = rd L (i : Int) := ⟨_, rfl⟩
    rw [← hy] at b1 b2 ht hmem
    refine Ev.step (fun k => by rw [spec_IsStandard.l0]) ?_
    rw [← hy]
    refine ev_pos (by omega) (ev_pos (by omega) (ev_ite (fun h => ev_val (decide_eq_false (fun g => by have := g.2 _ hmem; omega)).symm) (fun h => ev_pos (by omega) (ev_pos (by omega) ?_))))
    have ey : y = ((y.toNat : Nat) : Int) := by omega
    have hsub : (L.take (i + 1)).Sublist L := List.take_sublist _ _
    refine ev_ite (fun h2 => ev_val (decide_eq_false (fun g => ?_)).symm) (fun h2 => ?_)
    · have h3 : y ∈ L.take i := by rw [ey] at h2 ⊢; exact (hv _ (by omega)).1 h2
      have h4 := List.Nodup.sublist hsub g.1
      rw [ht, List.nodup_append] at h4
      exact h4.2.2 y h3 y (by simp) rfl
    · have h3 : y ∉ L.take i := fun h3 => h2 (by rw [ey]; rw [ey] at h3; exact (hv _ (by omega)).2 h3)
      rw [wrap_succ (by omega)]
      refine spec_std_l0 L h9 hl d (i + 1) (seen.set y.toNat true) (by omega) (by rw [List.length_set]; exact hs) ?_ ?_ ?_
      · intro v hv10
        rw [rdOf_set seen y.toNat v (by omega), ht, List.mem_append]
        by_cases e : y.toNat = v
        · rw [if_pos e]
          simp only [true_iff, List.mem_singleton]
          exact .inr (by omega)
        · rw [if_neg e, hv v hv10, List.mem_singleton]
          constructor
          · exact .inl
          · rintro (h | h)
            · exact h
            · omega
      · rw [ht, List.nodup_append]
        refine ⟨hd, by simp, ?_⟩
        intro a ha b hb e
        rw [List.mem_singleton] at hb
        subst hb e
        exact h3 ha
      · intro x hx'
        rw [ht, List.mem_append, List.mem_singleton] at hx'
        rcases hx' with h | h
        · exact hx x h
        · omega
theorem spec_IsStandard_ev (n : List Int) (m : List (List Int)) (hn : n.length ≤ 1048576) (hm : m.length ≤ 1048576) (hb : bulk m ≤ 1048576) : Ev (fun k => spec_IsStandard.f k n m) (isStd n m) := by
  have hr : ∀ r ∈ m, r.length ≤ 1048576 := fun r h => by have := bulk_mem h; omega
  unfold spec_IsStandard.f isStd
  refine Ev.bind (spec_IsTableau_ev n m hn hm hr) (ev_ite (fun h => ?_) (fun h => ?_))
  · obtain ⟨_, _, h9⟩ := isTab_cells h
    refine Ev.bind (spec_l5Numbers_ev n m hm hb) (ev_pos (by omega) ?_)
    have := spec_std_l0 m.flatten h9 (by rw [flatten_bulk]; exact hb) m.flatten.length 0 (List.replicate 10 false) (by omega) (by simp) (fun v hv => by unfold rdOf; rw [Int.toNat_natCast, List.getD_eq_getElem?_getD, List.getElem?_replicate, if_pos hv]; simp) (by simp) (by simp)
    refine ev_eq this ?_
    rw [h, Bool.true_and, Bool.eq_iff_iff, decide_eq_true_eq, areOnce_iff, once_iff (fun x hx => (h9 x hx).1)]
  · rw [Bool.not_eq_true] at h
    exact ev_val (by rw [h]; rfl)
theorem impl_IsStandard_ev (n : List Int) (m : List (List Int)) (hn : n.length ≤ 1048576) (hm : m.length ≤ 1048576) (hb : bulk m ≤ 1048576) : Ev (fun k => impl_IsStandard.f k n m) (isStd n m) := by
  have hr : ∀ r ∈ m, r.length ≤ 1048576 := fun r h => by have := bulk_mem h; omega
  unfold impl_IsStandard.f isStd
  refine Ev.bind (impl_IsTableau_ev n m hn hm hr) (ev_ite (fun h => ?_) (fun h => ?_))
  · refine Ev.bind (slices_Concat_ev m hm hb) (Ev.bind (impl_areOnce_ev _ (by rw [flatten_bulk]; exact hb)) (ev_val ?_))
    rw [h, Bool.true_and]
  · rw [Bool.not_eq_true] at h
    exact ev_val (by rw [h]; rfl)
end Go.Proofs.Ytdcdndfgdmcomaa.Q

set_option linter.unusedVariables false
set_option linter.unusedSimpArgs false
namespace Go.Proofs.Ytdcdndfgdmcomaa.Q
open Go.RowKit Go.Proofs.Ytdcdndfgdmcomaa.F Go.Proofs.YtdcdndfgdmcomaaW.PrintWords Go.Proofs.YtdcdndfgdmcomaaW.PrintLast Go.Proofs.YtdcdndfgdmcomaaW.PrintMore
def rowFrom (a : Int) : List (List Int) → Nat → Int
  | [], _ => -1
  | r :: l, i => if a ∈ r then (i : Int) else rowFrom a l (i + 1)
def rowOf (n : List Int) (m : List (List Int)) (a : Int) : Int := if isStd n m = true then rowFrom a m 0 else -1
theorem idxRow_ev (a : Int) : ∀ (l : List (List Int)) (i : Nat), (∀ r ∈ l, r.length ≤ 1048576) → Ev (fun k => idxRowO (fun row => slices_Contains_int_int.f k row a) l i) (rowFrom a l i)
  | [], _, _ => ev_val rfl
  | r :: l, i, h => by
    simp only [idxRowO, rowFrom]
    refine Ev.bind (slices_Contains_ev r a (h r (by simp))) (ev_ite (fun h1 => ev_val ?_) (fun h1 => ?_))
    · rw [if_pos (by simpa using h1)]
    · rw [if_neg (by simpa using h1)]
      exact idxRow_ev a l (i + 1) (fun s hs => h s (by simp [hs]))
theorem impl_RowOfEntry_ev (n : List Int) (m : List (List Int)) (a : Int) (hn : n.length ≤ 1048576) (hm : m.length ≤ 1048576) (hb : bulk m ≤ 1048576) : Ev (fun k => impl_RowOfEntry.f k n m a) (rowOf n m a) := by
  unfold impl_RowOfEntry.f rowOf
  refine Ev.bind (impl_IsStandard_ev n m hn hm hb) (ev_ite (fun h => ?_) (fun h => ?_))
  · rw [if_pos h]
    exact idxRow_ev a m 0 (fun r hr => by have := bulk_mem hr; omega)
  · rw [if_neg h]
    exact ev_val rfl
theorem spec_RowOfEntry_ev (n : List Int) (m : List (List Int)) (a : Int) (hn : n.length ≤ 1048576) (hm : m.length ≤ 1048576) (hb : bulk m ≤ 1048576) : Ev (fun k => spec_RowOfEntry.f k n m a) (rowOf n m a) := by
  have hr : ∀ r ∈ m, r.length ≤ 1048576 := fun r h => by have := bulk_mem h; omega
  have key : ∀ i, i ≤ m.length → Ev (fun k => spec_RowOfEntry.l0 k a (i : Int) n m) (rowFrom a (m.drop i) i) := by
    refine downTo m.length ?_ ?_
    · refine Ev.step (fun k => by rw [spec_RowOfEntry.l0]) ?_
      exact ev_neg (by omega) (ev_val (by rw [List.drop_length]; rfl))
    · intro i hi h
      have hlen := hr _ (rows_mem m i hi)
      have inner : ∀ j, j ≤ (rd_L1 m (i : Int)).length → Ev (fun k => spec_RowOfEntry.l1 k a (i : Int) (j : Int) n m) (if a ∈ (rd_L1 m (i : Int)).drop j then (i : Int) else rowFrom a (m.drop (i + 1)) (i + 1)) := by
        refine downTo _ ?_ ?_
        · refine Ev.step (fun k => by rw [spec_RowOfEntry.l1]) ?_
          refine ev_pos (by omega) (ev_pos (by omega) (ev_neg (by omega) ?_))
          rw [wrap_succ (by omega), List.drop_length, if_neg (by simp)]
          exact h
        · intro j hj hn'
          refine Ev.step (fun k => by rw [spec_RowOfEntry.l1]) ?_
          refine ev_pos (by omega) (ev_pos (by omega) (ev_pos (by omega) (ev_pos (by omega) (ev_ite (fun h1 => ev_val ?_) (fun h1 => ?_)))))
          · rw [if_pos (by rw [drop_rd _ j hj, h1]; simp)]
          · rw [wrap_succ (by omega)]
            refine ev_eq hn' ?_
            rw [drop_rd _ j hj]
            have h2 : ¬ a = rd (rd_L1 m (i : Int)) (j : Int) := fun e => h1 e.symm
            simp [h2]
      refine Ev.step (fun k => by rw [spec_RowOfEntry.l0]) ?_
      refine ev_pos (by omega) ?_
      have := inner 0 (by omega)
      rw [List.drop_zero] at this
      refine ev_eq this ?_
      rw [drop_rows m i hi]
      rfl
  unfold spec_RowOfEntry.f rowOf
  refine Ev.bind (spec_IsStandard_ev n m hn hm hb) (ev_ite (fun h => ?_) (fun h => ?_))
  · rw [if_pos h]
    have := key 0 (by omega)
    rw [List.drop_zero] at this
    exact this
  · rw [if_neg h]
    exact ev_val rfl
end Go.Proofs.Ytdcdndfgdmcomaa.Q

set_option linter.unusedVariables false
set_option linter.unusedSimpArgs false
namespace Go.Proofs.Ytdcdndfgdmcomaa.Q
open Go.RowKit Go.Proofs.Ytdcdndfgdmcomaa.F Go.Proofs.YtdcdndfgdmcomaaW.PrintWords Go.Proofs.YtdcdndfgdmcomaaW.PrintLast Go.Proofs.YtdcdndfgdmcomaaW.PrintMore
theorem descents_loop (n : List Int) (m : List (List Int)) (hn : n.length ≤ 1048576) (hm : m.length ≤ 1048576) (hb : bulk m ≤ 1048576) : ∀ (d x : Nat) (xs : List Int), m.flatten.length ≤ x + d → x + d ≤ 2097152 → xs.length + d ≤ 2097152 →
    ∃ v, Ev (fun k => spec_DescentsOf.l0 k xs (m.flatten.length : Int) (x : Int) n m) v ∧ Ev (fun k => impl_DescentsOf.l0 k xs (x : Int) n m) v ∧ v.length ≤ xs.length + d ∧ (1 ≤ x → ∀ y ∈ v, y ∈ xs ∨ (1 ≤ y ∧ y < (m.flatten.length : Int)))
  | 0, x, xs, h, _, _ => by
    refine ⟨xs, ?_, ?_, by omega, fun _ y hy => .inl hy⟩
    · refine Ev.step (fun k => by rw [spec_DescentsOf.l0]) ?_
      exact ev_neg (by omega) (ev_val rfl)
    · refine Ev.step (fun k => by rw [impl_DescentsOf.l0]) ?_
      exact Ev.bind (slices_Concat_ev m hm hb) (ev_neg (by omega) (ev_val rfl))
  | d + 1, x, xs, h, h2, h3 => by
    by_cases hx : x < m.flatten.length
    · by_cases hg : rowOf n m ((x + 1 : Nat) : Int) > rowOf n m (x : Int)
      · obtain ⟨v, e1, e2, e3, e4⟩ := descents_loop n m hn hm hb d (x + 1) (xs ++ [(x : Int)]) (by omega) (by omega) (by rw [List.length_append]; simp; omega)
        refine ⟨v, ?_, ?_, by rw [List.length_append] at e3; simp at e3; omega, fun h1 y hy => ?_⟩
        rotate_left 2
        · rcases e4 (by omega) y hy with h | h
          · rw [List.mem_append, List.mem_singleton] at h
            rcases h with h | h
            · exact .inl h
            · exact .inr ⟨by omega, by omega⟩
          · exact .inr h
        · refine Ev.step (fun k => by rw [spec_DescentsOf.l0]) ?_
          refine ev_pos (by omega) ?_
          rw [wrap_succ (by omega)]
          exact Ev.bind (spec_RowOfEntry_ev n m _ hn hm hb) (Ev.bind (spec_RowOfEntry_ev n m _ hn hm hb) (ev_pos hg (ev_pos (by omega) e1)))
        · refine Ev.step (fun k => by rw [impl_DescentsOf.l0]) ?_
          refine Ev.bind (slices_Concat_ev m hm hb) (ev_pos (by omega) ?_)
          rw [wrap_succ (by omega)]
          exact Ev.bind (impl_RowOfEntry_ev n m _ hn hm hb) (Ev.bind (impl_RowOfEntry_ev n m _ hn hm hb) (ev_pos hg (ev_pos (by omega) e2)))
      · obtain ⟨v, e1, e2, e3, e4⟩ := descents_loop n m hn hm hb d (x + 1) xs (by omega) (by omega) (by omega)
        refine ⟨v, ?_, ?_, by omega, fun h1 => e4 (by omega)⟩
        · refine Ev.step (fun k => by rw [spec_DescentsOf.l0]) ?_
          refine ev_pos (by omega) ?_
          rw [wrap_succ (by omega)]
          exact Ev.bind (spec_RowOfEntry_ev n m _ hn hm hb) (Ev.bind (spec_RowOfEntry_ev n m _ hn hm hb) (ev_neg hg e1))
        · refine Ev.step (fun k => by rw [impl_DescentsOf.l0]) ?_
          refine Ev.bind (slices_Concat_ev m hm hb) (ev_pos (by omega) ?_)
          rw [wrap_succ (by omega)]
          exact Ev.bind (impl_RowOfEntry_ev n m _ hn hm hb) (Ev.bind (impl_RowOfEntry_ev n m _ hn hm hb) (ev_neg hg e2))
    · refine ⟨xs, ?_, ?_, by omega, fun _ y hy => .inl hy⟩
      · refine Ev.step (fun k => by rw [spec_DescentsOf.l0]) ?_
        exact ev_neg (by omega) (ev_val rfl)
      · refine Ev.step (fun k => by rw [impl_DescentsOf.l0]) ?_
        exact Ev.bind (slices_Concat_ev m hm hb) (ev_neg (by omega) (ev_val rfl))
theorem descents_both (n : List Int) (m : List (List Int)) (hn : n.length ≤ 1048576) (hm : m.length ≤ 1048576) (hb : bulk m ≤ 1048576) : ∃ v, Ev (fun k => spec_DescentsOf.f k n m) v ∧ Ev (fun k => impl_DescentsOf.f k n m) v ∧ v.length ≤ 1048576 ∧ ∀ y ∈ v, 1 ≤ y ∧ y < (m.flatten.length : Int) := by
  by_cases h : isStd n m = true
  · obtain ⟨v, e1, e2, e3, e4⟩ := descents_loop n m hn hm hb m.flatten.length 1 [] (by omega) (by rw [flatten_bulk]; omega) (by rw [flatten_bulk]; simp; omega)
    refine ⟨v, ?_, ?_, by rw [flatten_bulk] at e3; simp at e3; omega, fun y hy => (e4 (Nat.le_refl _) y hy).resolve_left (by simp)⟩
    · unfold spec_DescentsOf.f
      refine ev_bindc rfl (Ev.bind (spec_IsStandard_ev n m hn hm hb) (ev_pos h (Ev.bind (spec_l5Numbers_ev n m hm hb) ?_)))
      exact e1
    · unfold impl_DescentsOf.f
      exact Ev.bind (impl_IsStandard_ev n m hn hm hb) (ev_pos h e2)
  · refine ⟨[], ?_, ?_, by simp, by simp⟩
    · unfold spec_DescentsOf.f
      exact ev_bindc rfl (Ev.bind (spec_IsStandard_ev n m hn hm hb) (ev_neg h (ev_val rfl)))
    · unfold impl_DescentsOf.f
      exact Ev.bind (impl_IsStandard_ev n m hn hm hb) (ev_neg h (ev_val rfl))
end Go.Proofs.Ytdcdndfgdmcomaa.Q

set_option linter.unusedVariables false
set_option linter.unusedSimpArgs false
namespace Go.Proofs.Ytdcdndfgdmcomaa.Q
open Go.RowKit Go.Proofs.Ytdcdndfgdmcomaa.F Go.Proofs.YtdcdndfgdmcomaaW.PrintWords Go.Proofs.YtdcdndfgdmcomaaW.PrintLast Go.Proofs.YtdcdndfgdmcomaaW.PrintMore
def isWt (l : List Int) : Bool := decide (l.length ≤ 9) && l.all (fun x => decide (0 ≤ x ∧ x ≤ 9))
theorem isWt_iff {l : List Int} : isWt l = true ↔ l.length ≤ 9 ∧ ∀ x ∈ l, 0 ≤ x ∧ x ≤ 9 := by simp [isWt]
theorem impl_isWeight_eq (l : List Int) : impl_isWeight.f l = some (isWt l) := by
  unfold impl_isWeight.f isWt
  congr 2
  rw [Bool.eq_iff_iff]
  simp
theorem spec_l7Weight_ev (l : List Int) (hl : l.length ≤ 1048576) : Ev (fun k => spec_l7Weight.f k l) (isWt l) := by
  have key : ∀ i, i ≤ l.length → Ev (fun k => spec_l7Weight.l0 k l (i : Int)) (decide (l.length ≤ 9) && (l.drop i).all (fun x => decide (0 ≤ x ∧ x ≤ 9))) := by
    refine downTo l.length ?_ ?_
    · refine Ev.step (fun k => by rw [spec_l7Weight.l0]) ?_
      refine ev_neg (by omega) (ev_val ?_)
      rw [List.drop_length]
      simp only [List.all_nil, Bool.and_true, decide_eq_decide]
      omega
    · intro i hi h
      refine Ev.step (fun k => by rw [spec_l7Weight.l0]) ?_
      refine ev_pos (by omega) (ev_pos (by omega) (ev_bindc (spec_l1In_eq _ _ _) ?_))
      rw [drop_rd l i hi, List.all_cons]
      refine ev_ite (fun h1 => ?_) (fun h1 => ev_val ?_)
      · rw [h1, Bool.true_and, wrap_succ (by omega)]
        exact h
      · rw [Bool.not_eq_true] at h1
        rw [h1, Bool.false_and, Bool.and_false]
  unfold spec_l7Weight.f isWt
  have := key 0 (by omega)
  rw [List.drop_zero] at this
  exact this
theorem isum_take_succ (l : List Int) (i : Nat) (h : i < l.length) : isum (l.take (i + 1)) = isum (l.take i) + rd l (i : Int) := by
  rw [take_rd l i h, isum_append]; simp [isum]
theorem isum_take_le {l : List Int} (h : ∀ x ∈ l, 0 ≤ x) (i : Nat) : 0 ≤ isum (l.take i) ∧ isum (l.take i) ≤ isum l := by
  have h1 := isum_nonneg (l := l.take i) (fun x hx => h x (List.mem_of_mem_take hx))
  have h2 := isum_nonneg (l := l.drop i) (fun x hx => h x (List.mem_of_mem_drop hx))
  have h3 := isum_append (l.take i) (l.drop i)
  rw [List.take_append_drop] at h3
  omega
def sumsTo (l : List Int) (i : Nat) : List Int := (List.range (i + 1)).map (fun j => isum (l.take j))
theorem sumsTo_succ (l : List Int) (i : Nat) : sumsTo l (i + 1) = sumsTo l i ++ [isum (l.take (i + 1))] := by unfold sumsTo; rw [List.range_succ, List.map_append]; rfl
theorem sumsTo_len (l : List Int) (i : Nat) : (sumsTo l i).length = i + 1 := by simp [sumsTo]
theorem impl_sums_ev (l : List Int) (hw : isWt l = true) : Ev (fun k => impl_sums.f k l) (sumsTo l l.length) := by
  obtain ⟨hl, h9⟩ := isWt_iff.1 hw
  have hs : isum l ≤ ((9 * l.length : Nat) : Int) := isum_le (fun x hx => (h9 x hx).2)
  have key : ∀ i, i ≤ l.length → Ev (fun k => impl_sums.l0 k (sumsTo l i) l (l.length : Int) (i : Int)) (sumsTo l l.length) := by
    refine downTo l.length ?_ ?_
    · refine Ev.step (fun k => by rw [impl_sums.l0]) ?_
      exact ev_neg (by omega) (ev_val rfl)
    · intro i hi h
      have hlen := sumsTo_len l i
      have e : rd (sumsTo l i) (i : Int) = isum (l.take i) := by rw [rd_eq _ i (by omega)]; simp [sumsTo]
      have hb := isum_take_le (fun x hx => (h9 x hx).1) (i + 1)
      rw [isum_take_succ l i hi] at hb
      refine Ev.step (fun k => by rw [impl_sums.l0]) ?_
      refine ev_pos (by omega) (ev_pos (by omega) (ev_pos (by omega) (ev_pos (by omega) (ev_pos (by omega) ?_))))
      rw [e, wrap_id (by omega) (by omega), wrap_succ (by omega), ← isum_take_succ l i hi, ← sumsTo_succ]
      exact h
  unfold impl_sums.f
  have := key 0 (by omega)
  simpa [sumsTo, isum] using this
theorem compatO_ev (l : List Int) (hw : isWt l = true) : ∀ ds : List Int, Ev (fun k => compatO (endsAt k l) ds) (ds.all (fun d => (sumsTo l l.length).any (fun n => decide (n = d))))
  | [] => ev_val rfl
  | d :: ds => by
    simp only [compatO, List.all_cons]
    refine Ev.bind (Ev.bind (impl_sums_ev l hw) (ev_val rfl)) (ev_ite (fun h => ?_) (fun h => ev_val ?_))
    · rw [h, Bool.true_and]
      exact compatO_ev l hw ds
    · rw [Bool.not_eq_true] at h
      rw [h, Bool.false_and]
theorem spec_compat_l1 (E : List Bool) (hE : E.length = 10) (ds : List Int) (hl : ds.length ≤ 1048576) (hd : ∀ d ∈ ds, 0 ≤ d ∧ d < 10) : Ev (fun k => spec_IsCompatible.l1 k E ds 0) (ds.all (fun d => rdOf false E d)) := by
  have key : ∀ i, i ≤ ds.length → Ev (fun k => spec_IsCompatible.l1 k E ds (i : Int)) ((ds.drop i).all (fun d => rdOf false E d)) := by
    refine downTo ds.length ?_ ?_
    · refine Ev.step (fun k => by rw [spec_IsCompatible.l1]) ?_
      exact ev_neg (by omega) (ev_val (by rw [List.drop_length]; rfl))
    · intro i hi h
      have hb := hd _ (rd_mem ds i hi)
      refine Ev.step (fun k => by rw [spec_IsCompatible.l1]) ?_
      refine ev_pos (by omega) (ev_pos (by omega) (ev_pos (by omega) (ev_pos (by omega) ?_)))
      rw [drop_rd ds i hi, List.all_cons]
      refine ev_ite (fun h1 => ?_) (fun h1 => ev_val ?_)
      · rw [h1, Bool.true_and, wrap_succ (by omega)]
        exact h
      · rw [Bool.not_eq_true] at h1
        rw [h1, Bool.false_and]
  have := key 0 (by omega)
  rw [List.drop_zero] at this
  exact this
theorem spec_compat_l0 (n : List Int) (m : List (List Int)) (l ds : List Int) (b : Bool) (hw : isWt l = true) (hN : isum l ≤ 9) (hds : Ev (fun k => spec_DescentsOf.f k n m) ds)
    (hb : ∀ E : List Bool, E.length = 10 → (∀ v : Nat, v < 10 → (rdOf false E (v : Int) = true ↔ ∃ j, 1 ≤ j ∧ j ≤ l.length ∧ isum (l.take j) = (v : Int))) → Ev (fun k => spec_IsCompatible.l1 k E ds 0) b) :
    ∀ (d i : Nat) (E : List Bool), i + d = l.length → E.length = 10 → (∀ v : Nat, v < 10 → (rdOf false E (v : Int) = true ↔ ∃ j, 1 ≤ j ∧ j ≤ i ∧ isum (l.take j) = (v : Int))) → Ev (fun k => spec_IsCompatible.l0 k l (isum (l.take i)) E (i : Int) n m) b
  | 0, i, E, hi, hE, hv => by
    have e : i = l.length := by omega
    subst e
    refine Ev.step (fun k => by rw [spec_IsCompatible.l0]) ?_
    exact ev_neg (by omega) (Ev.bind hds (hb E hE hv))
  | d + 1, i, E, hi, hE, hv => by
    obtain ⟨hl, h9⟩ := isWt_iff.1 hw
    have hlt : i < l.length := by omega
    have hbd := isum_take_le (fun x hx => (h9 x hx).1) (i + 1)
    have hs := isum_take_succ l i hlt
    refine Ev.step (fun k => by rw [spec_IsCompatible.l0]) ?_
    rw [wrap_id (by omega) (by omega), ← hs]
    refine ev_pos (by omega) (ev_pos (by omega) (ev_pos (by omega) (ev_pos (by omega) ?_)))
    rw [wrap_succ (by omega)]
    refine spec_compat_l0 n m l ds b hw hN hds hb d (i + 1) _ (by omega) (by rw [List.length_set]; exact hE) (fun v hv10 => ?_)
    rw [rdOf_set E _ v (by omega)]
    by_cases e : (isum (l.take (i + 1))).toNat = v
    · rw [if_pos e]
      simp only [true_iff]
      exact ⟨i + 1, by omega, by omega, by omega⟩
    · rw [if_neg e, hv v hv10]
      constructor
      · rintro ⟨j, h1, h2, h3⟩
        exact ⟨j, h1, by omega, h3⟩
      · rintro ⟨j, h1, h2, h3⟩
        by_cases ej : j = i + 1
        · subst ej
          exact absurd (by omega) e
        · exact ⟨j, h1, by omega, h3⟩
theorem compat_both (n : List Int) (m : List (List Int)) (l : List Int) (hn : n.length ≤ 1048576) (hm : m.length ≤ 1048576) (hb : bulk m ≤ 1048576) (hl : l.length ≤ 1048576) :
    ∃ b, Ev (fun k => spec_IsCompatible.f k n m l) b ∧ Ev (fun k => impl_IsCompatible.f k n m l) b := by
  by_cases h1 : isStd n m = true
  case neg =>
    refine ⟨false, ?_, ?_⟩
    · unfold spec_IsCompatible.f
      refine Ev.bind (spec_IsStandard_ev n m hn hm hb) (ev_neg h1 ?_)
      refine Ev.step (fun k => by rw [spec_IsCompatible.j0]) ?_
      exact ev_pos rfl (ev_val rfl)
    · unfold impl_IsCompatible.f
      refine Ev.bind (impl_IsStandard_ev n m hn hm hb) (ev_neg h1 ?_)
      exact ev_pos rfl (ev_val rfl)
  by_cases h2 : isWt l = true
  case neg =>
    refine ⟨false, ?_, ?_⟩
    · unfold spec_IsCompatible.f
      refine Ev.bind (spec_IsStandard_ev n m hn hm hb) (ev_pos h1 (Ev.bind (spec_l7Weight_ev l hl) (ev_neg h2 ?_)))
      refine Ev.step (fun k => by rw [spec_IsCompatible.j0]) ?_
      exact ev_pos rfl (ev_val rfl)
    · unfold impl_IsCompatible.f
      refine Ev.bind (impl_IsStandard_ev n m hn hm hb) (ev_pos h1 (ev_bindc (impl_isWeight_eq l) (ev_neg h2 ?_)))
      exact ev_pos rfl (ev_val rfl)
  obtain ⟨hl9, h9⟩ := isWt_iff.1 h2
  have hsp := spec_l2Size_ev l hl (fun x hx => by have := h9 x hx; omega)
  have him := impl_sum_ev l hl (fun x hx => by have := h9 x hx; omega)
  by_cases h3 : isum l = (m.flatten.length : Int)
  case neg =>
    have h3' : (isum l != (m.flatten.length : Int)) = true := by simpa using h3
    refine ⟨false, ?_, ?_⟩
    · unfold spec_IsCompatible.f
      refine Ev.bind (spec_IsStandard_ev n m hn hm hb) (ev_pos h1 (Ev.bind (spec_l7Weight_ev l hl) (ev_pos h2 (Ev.bind hsp (Ev.bind (spec_l5Numbers_ev n m hm hb) ?_)))))
      rw [h3']
      refine Ev.step (fun k => by rw [spec_IsCompatible.j0]) ?_
      exact ev_pos rfl (ev_val rfl)
    · unfold impl_IsCompatible.f
      refine Ev.bind (impl_IsStandard_ev n m hn hm hb) (ev_pos h1 (ev_bindc (impl_isWeight_eq l) (ev_pos h2 (Ev.bind him (Ev.bind (slices_Concat_ev m hm hb) ?_)))))
      rw [h3']
      exact ev_pos rfl (ev_val rfl)
  have h3' : (isum l != (m.flatten.length : Int)) = false := by simpa using h3
  obtain ⟨ds, e1, e2, e3, e4⟩ := descents_both n m hn hm hb
  have hN : isum l ≤ 9 := by
    rw [h3]
    unfold isStd at h1
    rw [Bool.and_eq_true] at h1
    obtain ⟨_, _, hc⟩ := isTab_cells h1.1
    by_cases h0 : m.flatten.length = 0
    · omega
    · have := areOnce_iff.1 h1.2 m.flatten.length (by omega) (Nat.le_refl _)
      exact (hc _ this).2
  refine ⟨ds.all (fun d => (sumsTo l l.length).any (fun n => decide (n = d))), ?_, ?_⟩
  · unfold spec_IsCompatible.f
    refine Ev.bind (spec_IsStandard_ev n m hn hm hb) (ev_pos h1 (Ev.bind (spec_l7Weight_ev l hl) (ev_pos h2 (Ev.bind hsp (Ev.bind (spec_l5Numbers_ev n m hm hb) ?_)))))
    rw [h3']
    refine Ev.step (fun k => by rw [spec_IsCompatible.j0]) ?_
    refine ev_neg (by simp) (ev_pos (by omega) ?_)
    refine spec_compat_l0 n m l ds _ h2 hN e1 (fun E hE hv => ?_) l.length 0 (List.replicate 10 false) (by omega) (by simp) (fun v hv => ?_)
    · refine ev_eq (spec_compat_l1 E hE ds (by omega) (fun d hd => by have := e4 d hd; omega)) ?_
      rw [Bool.eq_iff_iff, List.all_eq_true, List.all_eq_true]
      refine forall_congr' fun d => forall_congr' fun hd => ?_
      have hb := e4 d hd
      have ed : d = ((d.toNat : Nat) : Int) := by omega
      rw [ed, hv d.toNat (by omega), List.any_eq_true]
      constructor
      · rintro ⟨j, j1, j2, j3⟩
        exact ⟨isum (l.take j), by unfold sumsTo; exact List.mem_map.2 ⟨j, List.mem_range.2 (by omega), rfl⟩, decide_eq_true j3⟩
      · rintro ⟨x, hx, hxd⟩
        unfold sumsTo at hx
        obtain ⟨j, hj, rfl⟩ := List.mem_map.1 hx
        have hj := List.mem_range.1 hj
        have hxd := of_decide_eq_true hxd
        by_cases j0 : j = 0
        · subst j0
          simp [isum] at hxd
          omega
        · exact ⟨j, by omega, by omega, hxd⟩
    · unfold rdOf
      rw [Int.toNat_natCast, List.getD_eq_getElem?_getD, List.getElem?_replicate, if_pos hv]
      simp
      intro j j1 j2
      omega
  · unfold impl_IsCompatible.f
    refine Ev.bind (impl_IsStandard_ev n m hn hm hb) (ev_pos h1 (ev_bindc (impl_isWeight_eq l) (ev_pos h2 (Ev.bind him (Ev.bind (slices_Concat_ev m hm hb) ?_)))))
    rw [h3']
    exact ev_neg (by simp) (Ev.bind e2 (compatO_ev l h2 ds))
end Go.Proofs.Ytdcdndfgdmcomaa.Q

set_option linter.unusedVariables false
set_option linter.unusedSimpArgs false
namespace Go.Proofs.Ytdcdndfgdmcomaa.Q
open Go.RowKit Go.Proofs.Ytdcdndfgdmcomaa.F Go.Proofs.YtdcdndfgdmcomaaW.PrintWords Go.Proofs.YtdcdndfgdmcomaaW.PrintLast Go.Proofs.YtdcdndfgdmcomaaW.PrintMore
section
open Go.ChangeShapes Go.WideShapes
variable {H : Type} {enc : TypeId × Value → H} {P : Program} {W : World}
theorem open_ints_C {t e : TypeId} {k : IntKind} {fuel : Nat} {v : Value} {x : DataW H × List MemPlace} (ht : P.underlying t = some (.slice e)) (he : P.underlying e = some (.int k)) (hc : P.cellsOf e = 1)
    (h : DataW.trod enc P W 0 (fun _ => true) true fuel t [v] = some x) :
    ∃ (a : Option Addr) (l : List Int) (cap : Nat), v = .slice a l.length cap ∧ l.length ≤ cap ∧ l.length ≤ maxLen ∧ (Kd.int k).C W a l.length l ∧ ∀ n ∈ l, (Lit.int k n).wf = true := by
  rcases open_ints ht he hc h with ⟨hcs, _⟩ | ⟨a, len, cap, zs, hcs, _, hl, hm, hz, _, hcell, hw⟩
  · obtain rfl : v = .slice none 0 0 := by simpa using hcs
    exact ⟨none, [], 0, rfl, Nat.le_refl _, Nat.zero_le _, Kd.C_nil _ _, by simp⟩
  · obtain rfl : v = .slice (some a) len cap := by simpa using hcs
    simp only [if_true] at hz
    have hlen : (zs.take len).length = len := by rw [List.length_take, hz]; omega
    refine ⟨some a, zs.take len, cap, by rw [hlen], by rw [hlen]; exact hl, by rw [hlen]; omega, ⟨rfl, by rw [hlen]; unfold maxLen at hm; omega, fun _ => ⟨a, rfl, fun j p hj => ?_⟩⟩, fun n hn => hw n (List.mem_of_mem_take hn)⟩
    have hjl : j < len := by have := (List.getElem?_eq_some_iff.1 hj).1; omega
    refine ⟨[.int k p], rfl, rfl, fun i u hu => ?_⟩
    cases i with
    | zero =>
      obtain rfl : Value.int k p = u := by simpa using hu
      have := hcell j (by omega)
      rw [show j * (Kd.int k).sz + 0 = j from by show j * 1 + 0 = j; omega, this]
      rw [List.getElem?_take, if_pos hjl] at hj
      rw [List.getD_eq_getElem?_getD, hj]; rfl
    | succ i => simp at hu
theorem open_rows_C {t e q : TypeId} {k : IntKind} {fuel : Nat} {v : Value} {x : DataW H × List MemPlace} (ht : P.underlying t = some (.slice e)) (he : P.underlying e = some (.slice q)) (hq : P.underlying q = some (.int k))
    (ce : P.cellsOf e = 1) (cq : P.cellsOf q = 1) (h : DataW.trod enc P W 0 (fun _ => true) true fuel t [v] = some x) :
    ∃ (a : Option Addr) (l : List (List Int)) (cap : Nat), v = .slice a l.length cap ∧ l.length ≤ cap ∧ l.length ≤ maxLen ∧ (Kd.slice q (Kd.int k)).C W a l.length l ∧ (∀ r ∈ l, r.length ≤ maxLen) ∧ ∀ r ∈ l, ∀ n ∈ r, (Lit.int k n).wf = true := by
  rcases Go.Deep.open_int_rows ht he hq ce cq h with ⟨hcs, _⟩ | ⟨a, len, cap, A, L, C, Z, hcs, _, hl, hm, _, hrow⟩
  · obtain rfl : v = .slice none 0 0 := by simpa using hcs
    exact ⟨none, [], 0, rfl, Nat.le_refl _, Nat.zero_le _, Kd.C_nil _ _, by simp, by simp⟩
  · obtain rfl : v = .slice (some a) len cap := by simpa using hcs
    have hlen : ((List.range len).map fun r => (Z r).take (L r)).length = len := by simp
    have hel : ∀ r, r < len → ((Z r).take (L r)).length = L r := by
      intro r hr
      obtain ⟨_, h1, _, h3, _⟩ := hrow r (by omega)
      rw [List.length_take, h3]; omega
    refine ⟨some a, (List.range len).map fun r => (Z r).take (L r), cap, by rw [hlen], by rw [hlen]; exact hl, by rw [hlen]; omega, ⟨rfl, by rw [hlen]; unfold maxLen at hm; omega, fun _ => ⟨a, rfl, fun j p hj => ?_⟩⟩, ?_, ?_⟩
    · have hjl : j < len := by have := (List.getElem?_eq_some_iff.1 hj).1; omega
      have hp : (Z j).take (L j) = p := by
        rw [List.getElem?_map, List.getElem?_range hjl] at hj
        simpa using hj
      subst hp
      obtain ⟨h0, h1, h2, h3, h4, h5, h6⟩ := hrow j (by omega)
      have hL := hel j hjl
      refine ⟨[.slice (A j) (L j) (C j)], rfl, ⟨A j, C j, by rw [hL], by rw [hL]; exact h1, rfl, by rw [hL]; unfold maxLen at h2; omega, fun hpos => ?_⟩, fun i u hu => ?_⟩
      · rw [hL] at hpos
        cases hA : A j with
        | none => have := h5 hA; omega
        | some a' =>
          refine ⟨a', rfl, fun c y hc => ?_⟩
          have hcl : c < L j := by have := (List.getElem?_eq_some_iff.1 hc).1; omega
          refine ⟨[.int k y], rfl, rfl, fun i u hu => ?_⟩
          cases i with
          | zero =>
            obtain rfl : Value.int k y = u := by simpa using hu
            rw [show c * (Kd.int k).sz + 0 = c from by show c * 1 + 0 = c; omega, (h6 a' hA).2 c (by omega)]
            rw [List.getElem?_take, if_pos hcl] at hc
            rw [List.getD_eq_getElem?_getD, hc]; rfl
          | succ i => simp at hu
      · cases i with
        | zero =>
          obtain rfl : Value.slice (A j) (L j) (C j) = u := by simpa using hu
          rw [show j * (Kd.slice q (Kd.int k)).sz + 0 = j from by show j * 1 + 0 = j; omega]
          exact h0
        | succ i => simp at hu
    · intro r hr
      obtain ⟨j, hj, rfl⟩ := List.mem_map.1 hr
      have hjl := List.mem_range.1 hj
      obtain ⟨_, h1, h2, _⟩ := hrow j (by omega)
      rw [hel j hjl]; omega
    · intro r hr n hn
      obtain ⟨j, hj, rfl⟩ := List.mem_map.1 hr
      have hjl := List.mem_range.1 hj
      obtain ⟨_, _, _, _, h4, _⟩ := hrow j (by omega)
      exact h4 n (List.mem_of_mem_take hn)
end
end Go.Proofs.Ytdcdndfgdmcomaa.Q
