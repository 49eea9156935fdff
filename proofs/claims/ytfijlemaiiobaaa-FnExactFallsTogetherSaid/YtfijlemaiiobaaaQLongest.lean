/- The longest chain of a word, as the reference reckons it; condition: at most 2^20 numbers. -/
import Derived.Test.YtfijlemaiiobaaaF0
import Derived.Test.YtfijlemaiiobaaaF5
import Derived.Test.YtfijlemaiiobaaaQBase
set_option linter.unusedVariables false
set_option linter.unusedSimpArgs false
namespace Go.Proofs.Ytfijlemaiiobaaa.Q
open Go.RowKit Go.Proofs.Ytfijlemaiiobaaa.F Go.Proofs.YtfijlemaiiobaaaW.PrintWords Go.Proofs.YtfijlemaiiobaaaW.PrintLast Go.Proofs.YtfijlemaiiobaaaW.PrintMore
/-- what stands before what in a chain: with b, no number is less than the one before it; otherwise each is less -/
def Link (b : Bool) (x y : Int) : Prop := (b == decide (x ≤ y)) = true
theorem link_true : Link true = fun x y => x ≤ y := by funext x y; simp [Link]
theorem link_false : Link false = fun x y => y < x := by funext x y; simp [Link]
theorem link_trans (b : Bool) {x y z : Int} (h : Link b x y) (h' : Link b y z) : Link b x z := by
  cases b
  · rw [link_false] at *; exact Int.lt_trans h' h
  · rw [link_true] at *; exact Int.le_trans h h'
/-- the greatest length of the lists that S takes -/
def Most (S : List Int → Prop) (n : Nat) : Prop := (∃ c, S c ∧ c.length = n) ∧ ∀ c, S c → c.length ≤ n
theorem Most.eq {S : List Int → Prop} {n m : Nat} (h : Most S n) (h' : Most S m) : n = m := by
  obtain ⟨⟨c, hc, rfl⟩, h1⟩ := h
  obtain ⟨⟨d, hd, rfl⟩, h2⟩ := h'
  have := h1 d hd
  have := h2 c hc
  omega
/-- chains of the first k numbers -/
def Chains (b : Bool) (w : List Int) (k : Nat) (c : List Int) : Prop := c.Sublist (w.take k) ∧ c.Pairwise (Link b)
/-- chains that end at number k, and go through the first i numbers before -/
def Ends (b : Bool) (w : List Int) (k i : Nat) (c : List Int) : Prop := ∃ d, c = d ++ [rd w (k : Int)] ∧ d.Sublist (w.take i) ∧ c.Pairwise (Link b)
theorem ends_none (b : Bool) (w : List Int) (k : Nat) : Most (Ends b w k 0) 1 := by
  refine ⟨⟨[rd w (k : Int)], ⟨[], rfl, by simp, by simp⟩, rfl⟩, ?_⟩
  rintro c ⟨d, rfl, h1, _⟩
  obtain rfl : d = [] := by simpa using h1
  simp
theorem sub_snoc {d l : List Int} {x : Int} (h : d.Sublist (l ++ [x])) : d.Sublist l ∨ ∃ d', d = d' ++ [x] ∧ d'.Sublist l := by
  obtain ⟨a, e, rfl, ha, he⟩ := List.sublist_append_iff.1 h
  rcases List.sublist_cons_iff.1 he with he | ⟨t, rfl, ht⟩
  · obtain rfl : e = [] := by simpa using he
    rw [List.append_nil]; exact .inl ha
  · obtain rfl : t = [] := by simpa using ht
    exact .inr ⟨a, rfl, ha⟩
theorem ends_step {b : Bool} {w : List Int} {k i n e : Nat} (hi : i < w.length) (h : Most (Ends b w k i) n) (he : Most (Ends b w i i) e) : Most (Ends b w k (i + 1)) (if (b == decide (rd w (i : Int) ≤ rd w (k : Int))) = true then max n (e + 1) else n) := by
  obtain ⟨⟨c0, ⟨d0, rfl, h1, h2⟩, h3⟩, h4⟩ := h
  obtain ⟨⟨c1, ⟨d1, rfl, g1, g2⟩, g3⟩, g4⟩ := he
  have hold : Ends b w k (i + 1) (d0 ++ [rd w (k : Int)]) := ⟨d0, rfl, by rw [take_rd w i hi]; exact h1.trans (List.sublist_append_left ..), h2⟩
  have hup : ∀ c, Ends b w k (i + 1) c → Ends b w k i c ∨ (Link b (rd w (i : Int)) (rd w (k : Int)) ∧ c.length ≤ e + 1) := by
    rintro c ⟨d, rfl, p1, p2⟩
    rw [take_rd w i hi] at p1
    rcases sub_snoc p1 with p3 | ⟨d', rfl, p3⟩
    · exact .inl ⟨d, rfl, p3, p2⟩
    · obtain ⟨q1, _, q2⟩ := List.pairwise_append.1 p2
      have := g4 _ ⟨d', rfl, p3, q1⟩
      exact .inr ⟨q2 _ (by simp) _ (by simp), by simp only [List.length_append, List.length_cons, List.length_nil] at this ⊢; omega⟩
  by_cases hl : (b == decide (rd w (i : Int) ≤ rd w (k : Int))) = true
  · rw [if_pos hl]
    refine ⟨?_, fun c hc => ?_⟩
    · rcases Nat.le_total (e + 1) n with hle | hle
      · exact ⟨_, hold, by omega⟩
      · refine ⟨(d1 ++ [rd w (i : Int)]) ++ [rd w (k : Int)], ⟨_, rfl, by rw [take_rd w i hi]; exact g1.append (List.Sublist.refl _), List.pairwise_append.2 ⟨g2, by simp, fun x hx y hy => ?_⟩⟩, by simp only [List.length_append, List.length_cons, List.length_nil] at g3 ⊢; omega⟩
        obtain rfl : y = rd w (k : Int) := by simpa using hy
        rcases List.mem_append.1 hx with hx | hx
        · exact link_trans b ((List.pairwise_append.1 g2).2.2 x hx _ (by simp)) hl
        · obtain rfl : x = rd w (i : Int) := by simpa using hx
          exact hl
    · rcases hup c hc with h | ⟨_, h⟩
      · have := h4 c h; omega
      · omega
  · rw [if_neg hl]
    refine ⟨⟨_, hold, h3⟩, fun c hc => ?_⟩
    rcases hup c hc with h | ⟨h, _⟩
    · exact h4 c h
    · exact absurd h hl
theorem chains_none (b : Bool) (w : List Int) : Most (Chains b w 0) 0 := by
  refine ⟨⟨[], ⟨by simp, by simp⟩, rfl⟩, ?_⟩
  rintro c ⟨h, _⟩
  obtain rfl : c = [] := by simpa using h
  simp
theorem chains_step {b : Bool} {w : List Int} {k m e : Nat} (hk : k < w.length) (h : Most (Chains b w k) m) (he : Most (Ends b w k k) e) : Most (Chains b w (k + 1)) (max m e) := by
  obtain ⟨⟨c0, ⟨h1, h2⟩, h3⟩, h4⟩ := h
  obtain ⟨⟨c1, ⟨d1, rfl, g1, g2⟩, g3⟩, g4⟩ := he
  refine ⟨?_, ?_⟩
  · rcases Nat.le_total e m with hle | hle
    · exact ⟨c0, ⟨by rw [take_rd w k hk]; exact h1.trans (List.sublist_append_left ..), h2⟩, by omega⟩
    · exact ⟨_, ⟨by rw [take_rd w k hk]; exact g1.append (List.Sublist.refl _), g2⟩, by omega⟩
  · rintro c ⟨p1, p2⟩
    rw [take_rd w k hk] at p1
    rcases sub_snoc p1 with p3 | ⟨d, rfl, p3⟩
    · have := h4 c ⟨p3, p2⟩; omega
    · have := g4 _ ⟨d, rfl, p3, p2⟩; omega
theorem ends_le {b : Bool} {w : List Int} {k i n : Nat} (h : Most (Ends b w k i) n) : n ≤ w.length + 1 := by
  obtain ⟨⟨c, ⟨d, rfl, h1, _⟩, rfl⟩, _⟩ := h
  have := h1.length_le
  rw [List.length_take] at this
  simp only [List.length_append, List.length_cons, List.length_nil]; omega
theorem l1Max_eq (m n : Nat) : spec_l1Max.f (m : Int) (n : Int) = some ((max m n : Nat) : Int) := by
  unfold spec_l1Max.f
  by_cases h : (m : Int) > (n : Int)
  · rw [if_pos h, Nat.max_eq_left (by omega)]
  · rw [if_neg h, Nat.max_eq_right (by omega)]
theorem longest_ev (b : Bool) (w : List Int) (hw : w.length ≤ 1048576) : ∃ M : Nat, Ev (fun k => spec_l11Longest.f k w b) (M : Int) ∧ Most (fun c => c.Sublist w ∧ c.Pairwise (Link b)) M := by
  have main : ∀ (d k : Nat) (far : List Nat) (m : Nat), k + d = w.length → far.length = k → (∀ i (h : i < far.length), Most (Ends b w i i) far[i]) → Most (Chains b w k) m →
      ∃ M : Nat, Ev (fun q => spec_l11Longest.l0 q w b (m : Int) (far.map fun (x : Nat) => (x : Int)) (k : Int)) (M : Int) ∧ Most (Chains b w w.length) M := by
    intro d
    induction d with
    | zero =>
      intro k far m hk hf hE hm
      refine ⟨m, Ev.step (fun q => by rw [spec_l11Longest.l0]) (ev_neg (by omega) (ev_val rfl)), ?_⟩
      obtain rfl : k = w.length := by omega
      exact hm
    | succ d ih =>
      intro k far m hk hf hE hm
      have hkl : k < w.length := by omega
      -- the inner rounds
      have inner : ∀ (d' i n : Nat), i + d' = k → Most (Ends b w k i) n → ∃ M : Nat, Ev (fun q => spec_l11Longest.l1 q w b (m : Int) (far.map fun (x : Nat) => (x : Int)) (k : Int) (n : Int) (i : Int)) (M : Int) ∧ Most (Chains b w w.length) M := by
        intro d'
        induction d' with
        | zero =>
          intro i n hi hn
          obtain rfl : i = k := by omega
          obtain ⟨M, h1, h2⟩ := ih (i + 1) (far ++ [n]) (max m n) (by omega) (by simp [hf]) (fun j hj => by
            rcases Nat.lt_or_ge j far.length with h | h
            · rw [List.getElem_append_left h]; exact hE j h
            · obtain rfl : j = i := by simp at hj; omega
              rw [List.getElem_append_right h]
              simpa [hf] using hn) (chains_step hkl hm hn)
          refine ⟨M, Ev.step (fun q => by rw [spec_l11Longest.l1]) (ev_neg (by omega) (ev_pos (by rw [List.length_map]; omega) (ev_bindc (l1Max_eq m n) ?_))), h2⟩
          rw [wrap_succ (by omega)]
          simpa using h1
        | succ d' ih' =>
          intro i n hi hn
          have hil : i < far.length := by omega
          have hen := ends_le hn
          have hee := ends_le (hE i hil)
          obtain ⟨M, h1, h2⟩ := ih' (i + 1) _ (by omega) (ends_step (by omega) hn (hE i hil))
          refine ⟨M, Ev.step (fun q => by rw [spec_l11Longest.l1]) (ev_pos (by omega) (ev_pos (by omega) (ev_pos (by omega) (ev_pos (by omega) (ev_pos (by omega) (ev_ite (fun hc => ?_) (fun hc => ?_))))))), h2⟩
          · have e1 : rd (far.map fun (x : Nat) => (x : Int)) (i : Int) = (far[i] : Int) := by
              rw [rd_eq _ i (by rw [List.length_map]; exact hil), List.getElem_map]
            rw [e1, wrap_succ (by omega)]
            rw [if_pos hc] at h1
            refine ev_pos (by rw [List.length_map]; omega) (ev_bindc (l1Max_eq n (far[i] + 1)) ?_)
            rw [wrap_succ (by omega)]
            exact h1
          · rw [if_neg hc] at h1
            rw [wrap_succ (by omega)]
            exact h1
      obtain ⟨M, h1, h2⟩ := inner k 0 1 (by omega) (ends_none b w k)
      refine ⟨M, Ev.step (fun q => by rw [spec_l11Longest.l0]) ?_, h2⟩
      exact ev_pos (by omega) h1
  obtain ⟨M, h1, h2⟩ := main w.length 0 [] 0 (by omega) rfl (fun i h => by simp at h) (chains_none b w)
  refine ⟨M, by unfold spec_l11Longest.f; exact h1, ?_⟩
  have e : Chains b w w.length = fun c => c.Sublist w ∧ c.Pairwise (Link b) := by funext c; unfold Chains; rw [List.take_length]
  rw [← e]; exact h2
end Go.Proofs.Ytfijlemaiiobaaa.Q
