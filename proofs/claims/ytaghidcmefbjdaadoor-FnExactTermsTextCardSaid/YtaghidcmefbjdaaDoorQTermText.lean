/- TermsText, of the program and of the reference: the same text; conditions: at most 2^20 terms, parts of at most 2^20 numbers, int64 factors. -/
import Derived.Test.YtaghidcmefbjdaaDoorF0
import Derived.Test.YtaghidcmefbjdaaDoorF1
import Derived.Test.YtaghidcmefbjdaaDoorF2
import Derived.Test.YtaghidcmefbjdaaDoorF3
import Derived.Test.YtaghidcmefbjdaaDoorF4
import Derived.Test.YtaghidcmefbjdaaDoorF5
import Derived.Test.YtaghidcmefbjdaaDoorQBase
import Derived.Test.YtaghidcmefbjdaaDoorQRows
import Derived.Test.YtaghidcmefbjdaaDoorQIsIn
import Derived.Test.YtaghidcmefbjdaaDoorQPart
import Derived.Test.YtaghidcmefbjdaaDoorQLawEq
import Derived.Test.YtaghidcmefbjdaaDoorQLawInts
import Derived.Test.YtaghidcmefbjdaaDoorQDecText
set_option linter.unusedVariables false
set_option linter.unusedSimpArgs false
namespace Go.Proofs.YtaghidcmefbjdaaDoor.Q
open Go.RowKit Go.Proofs.YtaghidcmefbjdaaDoor.F Go.Proofs.YtaghidcmefbjdaaDoorW.PrintWords Go.Proofs.YtaghidcmefbjdaaDoorW.PrintLast Go.Proofs.YtaghidcmefbjdaaDoorW.PrintMore
def partText (p : List Int) : ByteArray := if isPartition p = true then (if p.length = 0 then ⟨#[45]⟩ else joinB (p.map itoaB) ⟨#[44]⟩) else ⟨#[]⟩
def termB (x : S35) : ByteArray := (itoaB x.f1 ++ ⟨#[42]⟩) ++ partText x.f0
def goodT (x : S35) : Prop := x.f0.length ≤ 1048576 ∧ -9223372036854775808 ≤ x.f1 ∧ x.f1 ≤ 9223372036854775807
def termsText (l : List S35) : ByteArray := if l.length = 0 then ⟨#[48]⟩ else if l.all (fun x => isPartition x.f0) = true then joinB (l.map termB) ⟨#[43]⟩ else ⟨#[]⟩
theorem rdT_eq (l : List S35) (i : Nat) (h : i < l.length) : rd_T35 l (i : Int) = l[i] := by
  unfold rd_T35; rw [Int.toNat_natCast, List.getD_eq_getElem?_getD, List.getElem?_eq_getElem h]; rfl
theorem rdT2_eq (l : List S32) (i : Nat) (h : i < l.length) : rd_T32 l (i : Int) = l[i] := by
  unfold rd_T32; rw [Int.toNat_natCast, List.getD_eq_getElem?_getD, List.getElem?_eq_getElem h]; rfl
theorem part_itoa {p : List Int} (h : isPartition p = true) : (p.map itoaB).length ≤ 9 ∧ ∀ x ∈ p.map itoaB, x.size ≤ 21 := by
  obtain ⟨_, h1, h2⟩ := isPartition_bd h
  refine ⟨by rw [List.length_map]; exact h1, fun x hx => ?_⟩
  obtain ⟨v, hv, rfl⟩ := List.mem_map.1 hx
  have := h2 v hv
  exact itoaB_size (by omega) (by omega)
theorem partText_size (p : List Int) : (partText p).size ≤ 200 := by
  unfold partText
  split
  · rename_i h
    split
    · show 1 ≤ 200; omega
    · obtain ⟨h1, h2⟩ := part_itoa h
      have h3 := joinB_size (c := 21) (s := ⟨#[44]⟩) (by show 1 ≤ 1; omega) h2
      have h4 : (21 + 1) * (p.map itoaB).length ≤ 22 * 9 := Nat.mul_le_mul_left _ h1
      omega
  · exact Nat.zero_le _
theorem termB_size {x : S35} (h : goodT x) : (termB x).size ≤ 1000 := by
  have h1 := itoaB_size h.2.1 h.2.2
  have h2 := partText_size x.f0
  unfold termB
  rw [ByteArray.size_append, ByteArray.size_append]
  have h3 : (⟨#[42]⟩ : ByteArray).size = 1 := rfl
  omega
theorem spec_commas_ev {p : List Int} (h : isPartition p = true) : Ev (fun k => spec_l2Commas.f k p) (joinB (p.map itoaB) ⟨#[44]⟩) := by
  obtain ⟨_, h1, h2⟩ := isPartition_bd h
  obtain ⟨h3, h4⟩ := part_itoa h
  unfold spec_l2Commas.f
  have key : ∀ d i, i + d = p.length → Ev (fun k => spec_l2Commas.l0 k p ((p.take i).map itoaB) (i : Int)) (joinB (p.map itoaB) ⟨#[44]⟩) := by
    intro d
    induction d with
    | zero =>
      intro i hi
      refine Ev.step (fun k => by rw [spec_l2Commas.l0]) (ev_neg (by omega) ?_)
      rw [List.take_of_length_le (by omega)]
      exact Ev.bind (specJoin_ev _ _ (by show 1 ≤ 1; omega) (fun x hx => by have := h4 x hx; omega) (by omega)) (ev_val rfl)
    | succ d ih =>
      intro i hi
      have hlt : i < p.length := by omega
      have hm := h2 _ (rd_mem p i hlt)
      refine Ev.step (fun k => by rw [spec_l2Commas.l0]) (ev_pos (by omega) (ev_pos (by omega) (Ev.bind (specFormat_ev _ (by omega) (by omega)) (ev_pos ?_ ?_))))
      · rw [List.length_map, List.length_take]; omega
      have := ih (i + 1) (by omega)
      rw [take_rd p i hlt, List.map_append, List.map_cons, List.map_nil] at this
      rw [wrap_succ (by omega)]
      exact this
  exact key p.length 0 (by omega)
theorem spec_partText_ev (p : List Int) (hl : p.length ≤ 1048576) : Ev (fun k => spec_PartitionText.f k p) (partText p) := by
  unfold spec_PartitionText.f partText
  refine Ev.bind (spec_IsPartition_ev p hl) (ev_ite (fun h => ?_) (fun h => ev_val ?_))
  · rw [if_pos h]
    refine ev_ite (fun h0 => ev_val ?_) (fun h0 => ?_)
    · rw [if_pos (by omega)]
    · rw [if_neg (by omega)]
      exact Ev.bind (spec_commas_ev h) (ev_val rfl)
  · rw [if_neg h]
theorem impl_joined_ev {p : List Int} (h : isPartition p = true) : Ev (fun k => impl_joined.f k p ⟨#[44]⟩) (joinB (p.map itoaB) ⟨#[44]⟩) := by
  obtain ⟨_, h1, h2⟩ := isPartition_bd h
  obtain ⟨h3, h4⟩ := part_itoa h
  unfold impl_joined.f
  have key : ∀ d i, i + d = p.length → Ev (fun k => impl_joined.l0 k ⟨#[44]⟩ ((p.take i).map itoaB) p (p.length : Int) (i : Int)) (joinB (p.map itoaB) ⟨#[44]⟩) := by
    intro d
    induction d with
    | zero =>
      intro i hi
      refine Ev.step (fun k => by rw [impl_joined.l0]) (ev_neg (by omega) ?_)
      rw [List.take_of_length_le (by omega)]
      exact ev_bindc (implJoin_eq (by show 1 ≤ 1; omega) (fun x hx => by have := h4 x hx; omega) (by omega)) (ev_val rfl)
    | succ d ih =>
      intro i hi
      have hlt : i < p.length := by omega
      have hm := h2 _ (rd_mem p i hlt)
      refine Ev.step (fun k => by rw [impl_joined.l0]) (ev_pos (by omega) (ev_pos (by omega) (ev_pos (by omega) (ev_bindc (implFormat_eq _ (by omega)) (ev_pos ?_ ?_)))))
      · rw [List.length_map, List.length_take]; omega
      have := ih (i + 1) (by omega)
      rw [take_rd p i hlt, List.map_append, List.map_cons, List.map_nil] at this
      rw [wrap_succ (by omega)]
      exact this
  exact key p.length 0 (by omega)
theorem impl_partText_ev (p : List Int) (hl : p.length ≤ 1048576) : Ev (fun k => impl_PartitionText.f k p) (partText p) := by
  unfold impl_PartitionText.f partText
  refine Ev.bind (impl_IsPartition_ev p hl) (ev_ite (fun h => ?_) (fun h => ev_val ?_))
  · rw [if_pos h]
    refine ev_ite (fun h0 => ev_val ?_) (fun h0 => ?_)
    · rw [if_pos (by omega)]
    · rw [if_neg (by omega)]
      exact Ev.bind (impl_joined_ev h) (ev_val rfl)
  · rw [if_neg h]
section
variable {l : List S35}
def endT (l : List S35) (i : Nat) : ByteArray := if (l.drop i).all (fun x => isPartition x.f0) = true then (if l.length = 0 then ⟨#[48]⟩ else joinB (l.map termB) ⟨#[43]⟩) else ⟨#[]⟩
theorem endT_zero : endT l 0 = termsText l := by
  unfold endT termsText
  rw [List.drop_zero]
  by_cases h : l.length = 0
  · rw [if_pos h]
    obtain rfl := List.length_eq_zero_iff.1 h
    rfl
  · rw [if_neg h]
    split <;> rfl
theorem endT_bad {i : Nat} (h : i < l.length) (hb : ¬ isPartition (l[i]).f0 = true) : endT l i = ⟨#[]⟩ := by
  unfold endT
  rw [if_neg]
  rw [List.drop_eq_getElem_cons h, List.all_cons]
  simp [hb]
theorem endT_next {i : Nat} (h : i < l.length) (hb : isPartition (l[i]).f0 = true) : endT l i = endT l (i + 1) := by
  unfold endT
  rw [List.drop_eq_getElem_cons h, List.all_cons, hb, Bool.true_and]
theorem take_term {i : Nat} (h : i < l.length) : (l.take i).map termB ++ [itoaB (l[i]).f1 ++ ⟨#[42]⟩ ++ partText (l[i]).f0] = (l.take (i + 1)).map termB := by
  rw [List.take_succ_eq_append_getElem h, List.map_append]; rfl
theorem spec_terms_ev (hl : l.length ≤ 1048576) (hg : ∀ x ∈ l, goodT x) : Ev (fun k => spec_TermsText.f k l) (termsText l) := by
  unfold spec_TermsText.f
  rw [← endT_zero]
  have hT : ∀ x ∈ l.map termB, x.size ≤ 1000 := fun x hx => by
    obtain ⟨y, hy, rfl⟩ := List.mem_map.1 hx
    exact termB_size (hg y hy)
  have key : ∀ d i, i + d = l.length → Ev (fun k => spec_TermsText.l0 k l ((l.take i).map termB) (i : Int)) (endT l i) := by
    intro d
    induction d with
    | zero =>
      intro i hi
      refine Ev.step (fun k => by rw [spec_TermsText.l0]) (ev_neg (by omega) ?_)
      unfold endT
      rw [List.drop_of_length_le (by omega), List.take_of_length_le (by omega)]
      simp only [List.all_nil, if_true]
      refine ev_ite (fun h => ev_val ?_) (fun h => ?_)
      · rw [if_pos (by rw [List.length_map] at h; omega)]
      · rw [if_neg (by rw [List.length_map] at h; omega)]
        exact Ev.bind (specJoin_ev _ _ (by show 1 ≤ 1; omega) hT (by rw [List.length_map]; exact hl)) (ev_val rfl)
    | succ d ih =>
      intro i hi
      have hlt : i < l.length := by omega
      have hgi := hg _ (List.getElem_mem hlt)
      refine Ev.step (fun k => by rw [spec_TermsText.l0]) (ev_pos (by omega) (ev_pos (by omega) ?_))
      rw [rdT_eq l i hlt]
      refine Ev.bind (spec_IsPartition_ev _ hgi.1) (ev_ite (fun h => ?_) (fun h => ev_val (endT_bad hlt h).symm))
      have s1 := itoaB_size hgi.2.1 hgi.2.2
      have s2 := partText_size (l[i]).f0
      have s3 : (⟨#[42]⟩ : ByteArray).size = 1 := rfl
      refine Ev.bind (specFormat_ev _ hgi.2.1 hgi.2.2) (ev_pos (by omega) (Ev.bind (spec_partText_ev _ hgi.1) (ev_pos (by rw [ByteArray.size_append]; omega) (ev_pos (by rw [List.length_map, List.length_take]; omega) ?_))))
      rw [take_term hlt, endT_next hlt h, wrap_succ (by omega)]
      exact ih (i + 1) (by omega)
  exact key l.length 0 (by omega)
theorem impl_terms_ev (hl : l.length ≤ 1048576) (hg : ∀ x ∈ l, goodT x) : Ev (fun k => impl_TermsText.f k l) (termsText l) := by
  unfold impl_TermsText.f
  refine ev_ite (fun h0 => ev_val ?_) (fun h0 => ?_)
  · unfold termsText; rw [if_pos (by omega)]
  rw [← endT_zero]
  have hT : ∀ x ∈ l.map termB, x.size ≤ 1000 := fun x hx => by
    obtain ⟨y, hy, rfl⟩ := List.mem_map.1 hx
    exact termB_size (hg y hy)
  have key : ∀ d i, i + d = l.length → Ev (fun k => impl_TermsText.l0 k ((l.take i).map termB) l (l.length : Int) (i : Int)) (endT l i) := by
    intro d
    induction d with
    | zero =>
      intro i hi
      refine Ev.step (fun k => by rw [impl_TermsText.l0]) (ev_neg (by omega) ?_)
      unfold endT
      rw [List.drop_of_length_le (by omega), List.take_of_length_le (by omega)]
      simp only [List.all_nil, if_true]
      rw [if_neg (by omega)]
      exact ev_bindc (implJoin_eq (by show 1 ≤ 1; omega) hT (by rw [List.length_map]; exact hl)) (ev_val rfl)
    | succ d ih =>
      intro i hi
      have hlt : i < l.length := by omega
      have hgi := hg _ (List.getElem_mem hlt)
      refine Ev.step (fun k => by rw [impl_TermsText.l0]) (ev_pos (by omega) (ev_pos (by omega) (ev_pos (by omega) ?_)))
      rw [rdT_eq l i hlt]
      refine Ev.bind (impl_IsPartition_ev _ hgi.1) (ev_ite (fun h => ?_) (fun h => ev_val (endT_bad hlt h).symm))
      have s1 := itoaB_size hgi.2.1 hgi.2.2
      have s2 := partText_size (l[i]).f0
      have s3 : (⟨#[42]⟩ : ByteArray).size = 1 := rfl
      refine ev_bindc (implFormatT_eq _ hgi.2.1 hgi.2.2) (ev_pos (by omega) (Ev.bind (impl_partText_ev _ hgi.1) (ev_pos (by rw [ByteArray.size_append]; omega) (ev_pos (by rw [List.length_map, List.length_take]; omega) ?_))))
      rw [take_term hlt, endT_next hlt h, wrap_succ (by omega)]
      exact ih (i + 1) (by omega)
  exact key l.length 0 (by omega)
end
def convT (x : S32) : S35 := ⟨x.f0, x.f1⟩
theorem toTermS_ev (l : List S32) (hl : l.length ≤ 1048576) (hg : ∀ x ∈ l, x.f0.length ≤ 1048576) : Ev (fun k => laws_toTermS.f k l) (l.map convT) := by
  have key : ∀ d i, i + d = l.length → Ev (fun k => laws_toTermS.l0 k l ((l.take i).map convT ++ List.replicate d z35) (i : Int)) (l.map convT) := by
    intro d
    induction d with
    | zero =>
      intro i hi
      refine Ev.step (fun k => by rw [laws_toTermS.l0]) (ev_neg (by omega) (ev_val ?_))
      rw [List.take_of_length_le (by omega), List.replicate_zero, List.append_nil]
    | succ d ih =>
      intro i hi
      have hlt : i < l.length := by omega
      have hgi := hg _ (List.getElem_mem hlt)
      refine Ev.step (fun k => by rw [laws_toTermS.l0]) (ev_pos (by omega) (ev_pos (by omega) ?_))
      rw [rdT2_eq l i hlt]
      have hT1 : Ev (fun k => laws_toTerm.f k (l[i]).f0 (l[i]).f1) ((l[i]).f0, (l[i]).f1) := by
        unfold laws_toTerm.f
        exact Ev.bind (toIntS_ev _ hgi) (ev_val rfl)
      refine Ev.bind hT1 (ev_pos ?_ ?_)
      · simp; omega
      have e : ((l.take i).map convT ++ List.replicate (d + 1) z35).set (i : Int).toNat (⟨(l[i]).f0, (l[i]).f1⟩ : S35) = (l.take (i + 1)).map convT ++ List.replicate d z35 := by
        rw [List.take_succ_eq_append_getElem hlt, List.map_append, List.set_append_right _ _ (by simp; omega)]
        simp [List.replicate_succ, Nat.min_eq_left (Nat.le_of_lt hlt), convT]
      rw [e, wrap_succ (by omega)]
      exact ih (i + 1) (by omega)
  unfold laws_toTermS.f
  refine ev_pos (by omega) (ev_pos (by simp; omega) ?_)
  have := key l.length 0 (by omega)
  simpa using this
theorem szTermS_ev (l : List S32) (hl : l.length ≤ 9223372036854775807) (hg : ∀ x ∈ l, x.f0.length ≤ 9223372036854775807) : ∃ z, Ev (fun k => laws_szTermS.f k l 1048576) z ∧ (0 ≤ z → l.length ≤ 1048576 ∧ ∀ x ∈ l, x.f0.length ≤ 1048576) := by
  have hI : ∀ (p : List Int) (left : Int), 0 ≤ left → left ≤ 1048576 → p.length ≤ 9223372036854775807 → ∃ z, laws_szIntS.f p left = some z ∧ z ≤ 1048576 ∧ (0 ≤ z → p.length ≤ 1048576) := by
    intro p left h0 h1 hp
    unfold laws_szIntS.f
    rw [wrap_id (by omega) (by omega)]
    by_cases h : left - (p.length : Int) < 0
    · rw [if_pos h]; exact ⟨-1, rfl, by omega, by omega⟩
    · rw [if_neg h]; exact ⟨_, rfl, by omega, by omega⟩
  have key : l.length ≤ 1048576 → ∀ d i, i + d = l.length → ∀ left : Int, 0 ≤ left → left ≤ 1048576 → ∃ z, Ev (fun k => laws_szTermS.l0 k l left (i : Int)) z ∧ (0 ≤ z → ∀ x ∈ l.drop i, x.f0.length ≤ 1048576) := by
    intro hl2 d
    induction d with
    | zero =>
      intro i hi left h0 h1
      refine ⟨left, Ev.step (fun k => by rw [laws_szTermS.l0]) (ev_neg (by omega) (ev_val rfl)), fun _ x hx => ?_⟩
      rw [List.drop_of_length_le (by omega)] at hx
      cases hx
    | succ d ih =>
      intro i hi left h0 h1
      have hlt : i < l.length := by omega
      obtain ⟨z, e1, z1, z2⟩ := hI (l[i]).f0 left h0 h1 (hg _ (List.getElem_mem hlt))
      by_cases hz : z < 0
      · refine ⟨-1, Ev.step (fun k => by rw [laws_szTermS.l0]) (ev_pos (by omega) (ev_pos (by omega) ?_)), fun h => by omega⟩
        rw [rdT2_eq l i hlt]
        refine ev_bindc (b := -1) ?_ (ev_pos (by omega) (ev_val rfl))
        unfold laws_szTerm.f
        rw [e1, Option.bind_some, if_pos hz]
      · obtain ⟨y, hy1, hy2⟩ := ih (i + 1) (by omega) z (by omega) z1
        refine ⟨y, Ev.step (fun k => by rw [laws_szTermS.l0]) (ev_pos (by omega) (ev_pos (by omega) ?_)), fun h x hx => ?_⟩
        · rw [rdT2_eq l i hlt]
          refine ev_bindc (b := z) ?_ (ev_neg hz ?_)
          · unfold laws_szTerm.f
            rw [e1, Option.bind_some, if_neg hz]
          · rw [wrap_succ (by omega)]; exact hy1
        · rw [List.drop_eq_getElem_cons hlt] at hx
          rcases List.mem_cons.1 hx with rfl | hx
          · exact z2 (by omega)
          · exact hy2 h x hx
  unfold laws_szTermS.f
  rw [wrap_id (by omega) (by omega)]
  by_cases h : (1048576 : Int) - (l.length : Int) < 0
  · exact ⟨-1, ev_pos h (ev_val rfl), fun h => by omega⟩
  · obtain ⟨z, h1, h2⟩ := key (by omega) l.length 0 (by omega) ((1048576 : Int) - (l.length : Int)) (by omega) (by omega)
    exact ⟨z, ev_neg h h1, fun hz => ⟨by omega, fun x hx => h2 hz x (by rw [List.drop_zero]; exact hx)⟩⟩
theorem eqTermS_same (l : List S35) (hl : l.length ≤ 1048576) (hg : ∀ x ∈ l, x.f0.length ≤ 1048576) : Ev (fun k => laws_eqTermS.f k l l) true := by
  have key : ∀ d i, i + d = l.length → Ev (fun k => laws_eqTermS.l0 k l l (i : Int)) true := by
    intro d
    induction d with
    | zero =>
      intro i hi
      exact Ev.step (fun k => by rw [laws_eqTermS.l0]) (ev_neg (by omega) (ev_val rfl))
    | succ d ih =>
      intro i hi
      have hlt : i < l.length := by omega
      refine Ev.step (fun k => by rw [laws_eqTermS.l0]) (ev_pos (by omega) (ev_pos (by omega) (ev_pos (by omega) ?_)))
      rw [rdT_eq l i hlt]
      have hT1 : Ev (fun k => laws_eqTerm.f k (l[i]).f0 (l[i]).f1 (l[i]).f0 (l[i]).f1) true := by
        unfold laws_eqTerm.f
        exact Ev.bind (eqIntS_same _ (hg _ (List.getElem_mem hlt))) (ev_pos rfl (ev_pos rfl (ev_val rfl)))
      refine Ev.bind hT1 (ev_pos rfl ?_)
      rw [wrap_succ (by omega)]
      exact ih (i + 1) (by omega)
  unfold laws_eqTermS.f
  exact ev_pos rfl (key l.length 0 (by omega))
/-- the law -/
theorem termsLaw (l : List S32) (hl : l.length ≤ 9223372036854775807) (hg : ∀ x ∈ l, x.f0.length ≤ 9223372036854775807 ∧ -9223372036854775808 ≤ x.f1 ∧ x.f1 ≤ 9223372036854775807) : Ev (fun k => laws_FnExactTermsText.f k l) true := by
  obtain ⟨z, hz, hb⟩ := szTermS_ev l hl (fun x hx => (hg x hx).1)
  unfold laws_FnExactTermsText.f
  refine Ev.bind hz (ev_ite (fun _ => ev_val rfl) (fun h => ?_))
  obtain ⟨h1, h2⟩ := hb (by omega)
  have ht := toTermS_ev l h1 h2
  have hl2 : (l.map convT).length ≤ 1048576 := by rw [List.length_map]; exact h1
  have hg2 : ∀ x ∈ l.map convT, goodT x := fun x hx => by
    obtain ⟨y, hy, rfl⟩ := List.mem_map.1 hx
    exact ⟨h2 y hy, (hg y hy).2⟩
  refine Ev.bind ht (Ev.bind (spec_terms_ev hl2 hg2) (Ev.bind ht (Ev.bind (impl_terms_ev hl2 hg2) (ev_pos rfl (Ev.bind ht (Ev.bind (eqTermS_same _ hl2 (fun x hx => (hg2 x hx).1)) (ev_pos rfl (ev_val rfl))))))))
end Go.Proofs.YtaghidcmefbjdaaDoor.Q
