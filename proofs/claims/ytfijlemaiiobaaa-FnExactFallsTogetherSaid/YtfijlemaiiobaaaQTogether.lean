/- The most numbers of a word with no chain of the other kind longer than k, as the reference reckons it; condition: at most nine numbers. -/
import Derived.Test.YtfijlemaiiobaaaF0
import Derived.Test.YtfijlemaiiobaaaF6
import Derived.Test.YtfijlemaiiobaaaQBase
import Derived.Test.YtfijlemaiiobaaaQInsertWord
import Derived.Test.YtfijlemaiiobaaaQGreene
import Derived.Test.YtfijlemaiiobaaaQLongest
import Derived.Lib.RabinKarpLaws
set_option linter.unusedVariables false
set_option linter.unusedSimpArgs false
namespace Go.Proofs.Ytfijlemaiiobaaa.Q
open Go.RowKit Go.Proofs.Ytfijlemaiiobaaa.F Go.Proofs.YtfijlemaiiobaaaW.PrintWords Go.Proofs.YtfijlemaiiobaaaW.PrintLast Go.Proofs.YtfijlemaiiobaaaW.PrintMore
/-- the numbers that the bits of s choose -/
def picked (w : List Int) (s : Nat) : Nat → List Int
  | 0 => []
  | i + 1 => picked w s i ++ (if s.testBit i then [rd w (i : Int)] else [])
theorem picked_sub (w : List Int) (s : Nat) : ∀ i, i ≤ w.length → (picked w s i).Sublist (w.take i)
  | 0, _ => by simp [picked]
  | i + 1, h => by
    rw [take_rd w i (by omega)]
    refine (picked_sub w s i (by omega)).append ?_
    split
    · exact List.Sublist.refl _
    · simp
theorem picked_len (w : List Int) (s : Nat) : ∀ i, (picked w s i).length ≤ i
  | 0 => by simp [picked]
  | i + 1 => by
    have := picked_len w s i
    simp only [picked, List.length_append]
    split <;> simp <;> omega
theorem picked_congr (w : List Int) (s t : Nat) : ∀ i, (∀ j, j < i → s.testBit j = t.testBit j) → picked w s i = picked w t i
  | 0, _ => rfl
  | i + 1, h => by simp only [picked, picked_congr w s t i (fun j hj => h j (by omega)), h i (by omega)]
theorem picked_all (w : List Int) : ∀ i, i ≤ w.length → ∀ X : List Int, X.Sublist (w.take i) → ∃ s, s < 2 ^ i ∧ picked w s i = X
  | 0, _, X, h => ⟨0, by simp, by simpa [picked, eq_comm] using h⟩
  | i + 1, hi, X, h => by
    rw [take_rd w i (by omega)] at h
    have hp : (2 : Nat) ^ (i + 1) = 2 ^ i + 2 ^ i := by rw [Nat.pow_succ]; omega
    rcases sub_snoc h with h3 | ⟨d, rfl, h3⟩
    · obtain ⟨s, h1, h2⟩ := picked_all w i (by omega) X h3
      refine ⟨s, by omega, ?_⟩
      simp only [picked, h2, Nat.testBit_lt_two_pow h1]
      simp
    · obtain ⟨s, h1, h2⟩ := picked_all w i (by omega) d h3
      refine ⟨2 ^ i + s, by omega, ?_⟩
      have e1 : picked w (2 ^ i + s) i = picked w s i := picked_congr w _ _ i (fun j hj => Nat.testBit_two_pow_add_gt hj s)
      have e2 : (2 ^ i + s).testBit i = true := by rw [Nat.testBit_two_pow_add_eq, Nat.testBit_lt_two_pow h1]; rfl
      simp only [picked, e1, h2, e2]
      simp
theorem bit_test (s i : Nat) (hs : s < 1024) (hi : i < 16) : (Go.bits .and .i64 (shr .i64 (s : Int) (IntKind.u64.wrap (i : Int))) 1 = 1) ↔ s.testBit i = true := by
  have hw : IntKind.u64.wrap (i : Int) = (i : Int) := by rw [IntKind.wrap_u64]; omega
  have e1 : shr .i64 (s : Int) (i : Int) = ((s / 2 ^ i : Nat) : Int) := by
    unfold shr
    have : min (i : Int).toNat IntKind.i64.bits = i := by
      rw [Int.toNat_natCast]
      exact Nat.min_eq_left (by show i ≤ 64; omega)
    rw [this]
    rw [Int.natCast_ediv]; simp
  have h2 : s / 2 ^ i ≤ s := Nat.div_le_self _ _
  rw [hw, e1, Go.Proofs.and_one _ (by omega), Nat.testBit_eq_decide_div_mod_eq]
  simp only [decide_eq_true_eq]
  omega
theorem short_longest {b : Bool} {X : List Int} {M k : Nat} (h : Most (fun c => c.Sublist X ∧ c.Pairwise (Link b)) M) : Short (Link b) k X ↔ M ≤ k := by
  obtain ⟨⟨c, ⟨h1, h2⟩, rfl⟩, h3⟩ := h
  exact ⟨fun hs => hs c h1 h2, fun hle d hd hp => Nat.le_trans (h3 d ⟨hd, hp⟩) hle⟩
theorem together_ev (b : Bool) (w : List Int) (hw : w.length ≤ 9) (K : Nat) : ∃ M : Nat, Ev (fun k => spec_l11Together.f k w (K : Int) b) (M : Int) ∧ Fit (Link (!b)) K M w ∧ ∀ n, Fit (Link (!b)) K n w → n ≤ M := by
  have hp : (2 : Nat) ^ w.length ≤ 512 := by
    have := Nat.pow_le_pow_right (n := 2) (by omega) hw
    simpa using this
  have hsh : shl .i64 1 (IntKind.u64.wrap ((w.length : Nat) : Int)) = ((2 ^ w.length : Nat) : Int) := by
    have h1 : IntKind.u64.wrap ((w.length : Nat) : Int) = ((w.length : Nat) : Int) := by rw [IntKind.wrap_u64]; omega
    rw [h1]; unfold shl
    have : min ((w.length : Nat) : Int).toNat IntKind.i64.bits = w.length := by
      rw [Int.toNat_natCast]
      exact Nat.min_eq_left (by show w.length ≤ 64; omega)
    rw [this, IntKind.wrap_i64]
    have e : ((2 : Int) ^ w.length) = ((2 ^ w.length : Nat) : Int) := by simp
    rw [Int.one_mul, e]
    generalize (2 ^ w.length : Nat) = p2 at hp ⊢
    omega
  have h0 : (0 : Int) ≤ IntKind.u64.wrap ((w.length : Nat) : Int) := by rw [IntKind.wrap_u64]; omega
  have main : ∀ (d s B : Nat), s + d = 2 ^ w.length → B ≤ 9 → Fit (Link (!b)) K B w → (∀ t, t < s → Short (Link (!b)) K (picked w t w.length) → (picked w t w.length).length ≤ B) →
      ∃ M : Nat, Ev (fun k => spec_l11Together.l0 k w (K : Int) b (B : Int) (s : Int)) (M : Int) ∧ Fit (Link (!b)) K M w ∧ (∀ t, t < 2 ^ w.length → Short (Link (!b)) K (picked w t w.length) → (picked w t w.length).length ≤ M) := by
    intro d
    induction d with
    | zero =>
      intro s B hs hB9 hB hall
      refine ⟨B, Ev.step (fun k => by rw [spec_l11Together.l0]) (ev_pos h0 ?_), hB, fun t ht => hall t (by omega)⟩
      rw [hsh]
      exact ev_neg (by omega) (ev_val rfl)
    | succ d ih =>
      intro s B hs hB9 hB hall
      -- the numbers that s chooses
      obtain ⟨X, hX⟩ : ∃ X, X = picked w s w.length := ⟨_, rfl⟩
      have hXs : X.Sublist w := by rw [hX]; have := picked_sub w s w.length (Nat.le_refl _); rwa [List.take_length] at this
      have hX9 : X.length ≤ 9 := by have := hXs.length_le; omega
      obtain ⟨L, hL1, hL2⟩ := longest_ev (!b) X (by omega)
      have hSL := short_longest (k := K) hL2
      have rest : ∃ M : Nat, Ev (fun k => if (X.length : Int) > (B : Int) then ((spec_l11Longest.f k X (!b)).bind fun t233 => (if t233 ≤ (K : Int) then (spec_l11Together.l0 k w (K : Int) b (X.length : Int) (wrap64 ((s : Int) + 1))) else (spec_l11Together.l0 k w (K : Int) b (B : Int) (wrap64 ((s : Int) + 1))))) else (spec_l11Together.l0 k w (K : Int) b (B : Int) (wrap64 ((s : Int) + 1)))) (M : Int) ∧ Fit (Link (!b)) K M w ∧ (∀ t, t < 2 ^ w.length → Short (Link (!b)) K (picked w t w.length) → (picked w t w.length).length ≤ M) := by
        rw [wrap_succ (by omega)]
        by_cases h1 : X.length > B
        · by_cases h2 : L ≤ K
          · obtain ⟨M, m1, m2⟩ := ih (s + 1) X.length (by omega) hX9 ⟨X, hXs, rfl, hSL.2 h2⟩ (fun t ht hS => by
              rcases Nat.lt_or_ge t s with h | h
              · have := hall t h hS; omega
              · obtain rfl : t = s := by omega
                rw [hX]; exact Nat.le_refl _)
            exact ⟨M, ev_pos (by omega) (Ev.bind hL1 (ev_pos (by omega) m1)), m2⟩
          · obtain ⟨M, m1, m2⟩ := ih (s + 1) B (by omega) hB9 hB (fun t ht hS => by
              rcases Nat.lt_or_ge t s with h | h
              · exact hall t h hS
              · obtain rfl : t = s := by omega
                rw [← hX] at hS; exact absurd (hSL.1 hS) h2)
            exact ⟨M, ev_pos (by omega) (Ev.bind hL1 (ev_neg (by omega) m1)), m2⟩
        · obtain ⟨M, m1, m2⟩ := ih (s + 1) B (by omega) hB9 hB (fun t ht hS => by
            rcases Nat.lt_or_ge t s with h | h
            · exact hall t h hS
            · obtain rfl : t = s := by omega
              rw [← hX]; omega)
          exact ⟨M, ev_neg (by omega) m1, m2⟩
      obtain ⟨M, m1, m2⟩ := rest
      refine ⟨M, Ev.step (fun k => by rw [spec_l11Together.l0]) (ev_pos h0 ?_), m2⟩
      rw [hsh]
      refine ev_pos (by omega) ?_
      -- the inner rounds
      have inner : ∀ (d' i : Nat), i + d' = w.length → Ev (fun k => spec_l11Together.l1 k w (K : Int) b (B : Int) (s : Int) (picked w s i) (i : Int)) (M : Int) := by
        intro d'
        induction d' with
        | zero =>
          intro i hi
          obtain rfl : i = w.length := by omega
          refine Ev.step (fun k => by rw [spec_l11Together.l1]) (ev_neg (by omega) ?_)
          rw [← hX]
          exact m1
        | succ d' ih' =>
          intro i hi
          have hn := ih' (i + 1) (by omega)
          have hlen := picked_len w s i
          refine Ev.step (fun k => by rw [spec_l11Together.l1]) (ev_pos (by omega) (ev_pos (by rw [IntKind.wrap_u64]; omega) ?_))
          rw [wrap_succ (by omega)]
          by_cases ht : s.testBit i = true
          · refine ev_pos ((bit_test s i (by omega) (by omega)).2 ht) (ev_pos (by omega) (ev_pos (by omega) ?_))
            have e : picked w s i ++ [rd w (i : Int)] = picked w s (i + 1) := by simp [picked, ht]
            rw [e]; exact hn
          · refine ev_neg (fun h => ht ((bit_test s i (by omega) (by omega)).1 h)) ?_
            have e : picked w s i = picked w s (i + 1) := by simp [picked, ht]
            rw [e]; exact hn
      exact inner w.length 0 (by omega)
  obtain ⟨M, h1, h2, h3⟩ := main (2 ^ w.length) 0 0 (by omega) (by omega) ⟨[], by simp, rfl, fun c hc _ => by have := hc.length_le; simp at this; simp [this]⟩ (fun t ht => by omega)
  refine ⟨M, by unfold spec_l11Together.f; exact h1, h2, ?_⟩
  rintro n ⟨X, hX, rfl, hS⟩
  obtain ⟨s, hs1, rfl⟩ := picked_all w w.length (Nat.le_refl _) X (by rw [List.take_length]; exact hX)
  exact h3 s hs1 hS
end Go.Proofs.Ytfijlemaiiobaaa.Q
