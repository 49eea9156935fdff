/- Numbers as text and texts joined, of the program and of the reference; conditions: an int64, texts of at most 1000 bytes, at most 2^21 of them. -/
import Derived.Test.YtaghidcmefbjdaaDoorF0
import Derived.Test.YtaghidcmefbjdaaDoorF1
import Derived.Test.YtaghidcmefbjdaaDoorF3
import Derived.Test.YtaghidcmefbjdaaDoorQBase
import Derived.Lib.Join
import Derived.Lib.ItoaLen
set_option linter.unusedVariables false
set_option linter.unusedSimpArgs false
namespace Go.Proofs.YtaghidcmefbjdaaDoor.Q
open Go.RowKit Go.Proofs.YtaghidcmefbjdaaDoor.F Go.Proofs.YtaghidcmefbjdaaDoorW.PrintWords Go.Proofs.YtaghidcmefbjdaaDoorW.PrintLast Go.Proofs.YtaghidcmefbjdaaDoorW.PrintMore
theorem bext {a b : ByteArray} (h : a.data.toList = b.data.toList) : a = b := by
  apply ByteArray.ext
  exact Array.toList_inj.1 h
theorem bsize (b : ByteArray) : b.size = b.data.toList.length := (Array.length_toList).symm
theorem bapp (a b : ByteArray) : (a ++ b).data.toList = a.data.toList ++ b.data.toList := by rw [ByteArray.data_append, Array.toList_append]
def ofL (l : List UInt8) : ByteArray := ⟨l.toArray⟩
theorem ofL_l (l : List UInt8) : (ofL l).data.toList = l := by unfold ofL; simp
theorem ofL_size (l : List UInt8) : (ofL l).size = l.length := by rw [bsize, ofL_l]
theorem ofL_app (a b : List UInt8) : ofL a ++ ofL b = ofL (a ++ b) := bext (by rw [bapp, ofL_l, ofL_l, ofL_l])
theorem ofL_id (b : ByteArray) : ofL b.data.toList = b := bext (ofL_l _)
def itoaB (n : Int) : ByteArray := ofL (Lib.itoa n)
def joinB (ls : List ByteArray) (s : ByteArray) : ByteArray := ofL (Lib.join (ls.map (·.data.toList)) s.data.toList)
theorem itoaB_size {n : Int} (h0 : -9223372036854775808 ≤ n) (h1 : n ≤ 9223372036854775807) : (itoaB n).size ≤ 21 := by
  unfold itoaB
  rw [ofL_size]
  exact Lib.itoa_length_le n h0 h1
def digs (m : Nat) : List UInt8 := if m = 0 then [] else Lib.decDigits m
theorem digs_step {m : Nat} (h : 0 < m) : digs m = digs (m / 10) ++ [UInt8.ofNat (48 + m % 10)] := by
  unfold digs
  rw [if_neg (by omega)]
  by_cases h1 : m < 10
  · rw [if_pos (by omega), Lib.decDigits, dif_pos h1, Nat.mod_eq_of_lt h1]; rfl
  · rw [if_neg (by omega), Lib.decDigits, dif_neg h1]
theorem one_digit {m : Nat} (h : m < 10) : strOfNums [(48 + (m : Int)) % 256] = ofL [UInt8.ofNat (48 + m)] := by
  rw [Int.emod_eq_of_lt (by omega) (by omega)]
  have e : (48 + (m : Int)).toNat = 48 + m := by omega
  unfold strOfNums ofL
  simp only [List.map_cons, List.map_nil, e]
theorem format_l0 (neg : Bool) : ∀ (d m : Nat) (x : Int) (out : ByteArray), m < 10 ^ d → (x = (m : Int) ∨ x = -(m : Int)) → -9223372036854775808 ≤ x → x ≤ 9223372036854775807 → out.size + d ≤ 1000 →
    Ev (fun k => spec_FormatInt.l0 k x neg out) (if neg = true then ofL [45] ++ (ofL (digs m) ++ out) else ofL (digs m) ++ out) := by
  intro d
  induction d with
  | zero =>
    intro m x out hm hx _ _ ho
    have hm0 : m = 0 := by simpa using hm
    subst hm0
    have hx0 : x = 0 := by omega
    have e0 : ofL (digs 0) ++ out = out := bext (by rw [bapp, ofL_l]; rfl)
    rw [e0]
    refine Ev.step (fun k => by rw [spec_FormatInt.l0]) (ev_pos hx0 (ev_ite (fun h => ?_) (fun h => ev_val ?_)))
    · rw [if_pos h]; exact ev_pos (by omega) (ev_val rfl)
    · rw [if_neg h]
  | succ d ih =>
    intro m x out hm hx h0 h1 ho
    by_cases hm0 : m = 0
    · subst hm0
      have hx0 : x = 0 := by omega
      have e0 : ofL (digs 0) ++ out = out := bext (by rw [bapp, ofL_l]; rfl)
      rw [e0]
      refine Ev.step (fun k => by rw [spec_FormatInt.l0]) (ev_pos hx0 (ev_ite (fun h => ?_) (fun h => ev_val ?_)))
      · rw [if_pos h]; exact ev_pos (by omega) (ev_val rfl)
      · rw [if_neg h]
    · have hq : m / 10 < 10 ^ d := by rw [Nat.pow_succ] at hm; omega
      have hmod : m % 10 < 10 := Nat.mod_lt _ (by decide)
      have hsz : (ofL [UInt8.ofNat (48 + m % 10)] ++ out).size + d ≤ 1000 := by rw [ByteArray.size_append, ofL_size]; simp only [List.length_singleton]; omega
      have hs1 : (ofL [UInt8.ofNat (48 + m % 10)]).size + out.size ≤ 9223372036854775807 := by rw [ofL_size]; simp only [List.length_singleton]; omega
      have eO : ofL (digs m) ++ out = ofL (digs (m / 10)) ++ (ofL [UInt8.ofNat (48 + m % 10)] ++ out) := by
        rw [digs_step (by omega), ← ofL_app]
        exact bext (by rw [bapp, bapp, bapp, bapp, List.append_assoc])
      have hT : Int.tmod x 10 = (m % 10 : Nat) ∨ Int.tmod x 10 = -((m % 10 : Nat) : Int) := by
        rcases hx with rfl | rfl
        · left; rw [Int.tmod_eq_emod_of_nonneg (by omega)]; omega
        · right; rw [Int.neg_tmod, Int.tmod_eq_emod_of_nonneg (by omega)]; omega
      have hD : wrap64 (Int.tdiv x 10) = ((m / 10 : Nat) : Int) ∨ wrap64 (Int.tdiv x 10) = -((m / 10 : Nat) : Int) := by
        rcases hx with rfl | rfl
        · left; rw [Int.tdiv_eq_ediv_of_nonneg (by omega), wrap_id (by omega) (by omega)]; omega
        · right; rw [Int.neg_tdiv, Int.tdiv_eq_ediv_of_nonneg (by omega), wrap_id (by omega) (by omega)]; omega
      have hDb : -9223372036854775808 ≤ wrap64 (Int.tdiv x 10) ∧ wrap64 (Int.tdiv x 10) ≤ 9223372036854775807 := by unfold wrap64; omega
      rw [eO]
      refine Ev.step (fun k => by rw [spec_FormatInt.l0]) (ev_neg (by omega) (ev_ite (fun h => ?_) (fun h => ?_)))
      · have e1 : strOfNums [(wrap64 (48 + wrap64 (-(Int.tmod x 10)))) % 256] = ofL [UInt8.ofNat (48 + m % 10)] := by
          have e2 : -(Int.tmod x 10) = ((m % 10 : Nat) : Int) := by omega
          rw [e2, wrap_id (i := ((m % 10 : Nat) : Int)) (by omega) (by omega), wrap_id (by omega) (by omega)]
          exact one_digit hmod
        refine ev_bindc rfl ?_
        rw [e1]
        exact ev_pos hs1 (ih (m / 10) _ _ hq hD hDb.1 hDb.2 hsz)
      · have e1 : strOfNums [(wrap64 (48 + Int.tmod x 10)) % 256] = ofL [UInt8.ofNat (48 + m % 10)] := by
          have e2 : Int.tmod x 10 = ((m % 10 : Nat) : Int) := by omega
          rw [e2, wrap_id (by omega) (by omega)]
          exact one_digit hmod
        refine ev_bindc rfl ?_
        rw [e1]
        exact ev_pos hs1 (ih (m / 10) _ _ hq hD hDb.1 hDb.2 hsz)
theorem specFormat_ev (n : Int) (h0 : -9223372036854775808 ≤ n) (h1 : n ≤ 9223372036854775807) : Ev (fun k => spec_FormatInt.f k n) (itoaB n) := by
  unfold spec_FormatInt.f
  refine ev_ite (fun h => ev_val ?_) (fun h => ?_)
  · subst h
    unfold itoaB Lib.itoa
    rw [if_neg (by omega), show (0 : Int).toNat = 0 from rfl, Lib.decDigits, dif_pos (by omega)]
    rfl
  · have hp : n.natAbs < 10 ^ 20 := Nat.lt_of_le_of_lt (show n.natAbs ≤ 9223372036854775808 by omega) (by decide)
    have hk := format_l0 (decide (n < 0)) 20 n.natAbs n ⟨#[]⟩ hp (by omega) h0 h1 (show (0 : Nat) + 20 ≤ 1000 by omega)
    refine ev_eq hk ?_
    have e0 : ∀ l : List UInt8, ofL l ++ (⟨#[]⟩ : ByteArray) = ofL l := fun l => bext (by rw [bapp]; exact List.append_nil _)
    rw [e0]
    have hd : digs n.natAbs = Lib.decDigits n.natAbs := by unfold digs; rw [if_neg (by omega)]
    rw [hd]
    unfold itoaB Lib.itoa
    by_cases hn : n < 0
    · rw [if_pos (decide_eq_true hn), if_pos hn, ofL_app]; rfl
    · rw [if_neg (by simpa using hn), if_neg hn, show n.toNat = n.natAbs by omega]
theorem implFormat_eq (n : Int) (h : 0 ≤ n ∧ n < 100) : impl_FormatInt.f n = some (itoaB n) := by
  unfold impl_FormatInt.f itoaB Lib.itoa
  rw [if_pos h, if_neg (by omega)]
  rfl
theorem implFormatT_eq (n : Int) (h0 : -9223372036854775808 ≤ n) (h1 : n ≤ 9223372036854775807) : impl_FormatIntT.f n = some (itoaB n) := by
  unfold impl_FormatIntT.f
  rw [if_pos ⟨h0, h1⟩]
  rfl
theorem joinTail_snoc (sep x : List UInt8) (r : List (List UInt8)) : Lib.joinTail sep (r ++ [x]) = Lib.joinTail sep r ++ (sep ++ x) := by
  unfold Lib.joinTail; simp
theorem join_snoc (sep x : List UInt8) (ls : List (List UInt8)) (h : ls ≠ []) : Lib.join (ls ++ [x]) sep = Lib.join ls sep ++ (sep ++ x) := by
  cases ls with
  | nil => exact absurd rfl h
  | cons y r => rw [List.cons_append, Lib.join_cons, Lib.join_cons, joinTail_snoc, List.append_assoc]
theorem join_len {c : Nat} (sep : List UInt8) (hs : sep.length ≤ 1) (ls : List (List UInt8)) (h : ∀ x ∈ ls, x.length ≤ c) : (Lib.join ls sep).length ≤ (c + 1) * ls.length := by
  have ht : ∀ r : List (List UInt8), (∀ x ∈ r, x.length ≤ c) → (Lib.joinTail sep r).length ≤ (c + 1) * r.length := fun r => by
    induction r with
    | nil => intro _; exact Nat.zero_le _
    | cons y r ih =>
      intro hr
      have h1 := hr y List.mem_cons_self
      have h2 := ih (fun x hx => hr x (List.mem_cons_of_mem _ hx))
      have e : Lib.joinTail sep (y :: r) = (sep ++ y) ++ Lib.joinTail sep r := by unfold Lib.joinTail; simp
      rw [e, List.length_append, List.length_append, List.length_cons, Nat.mul_succ]
      omega
  cases ls with
  | nil => exact Nat.zero_le _
  | cons y r =>
    have h1 := h y List.mem_cons_self
    have h2 := ht r (fun x hx => h x (List.mem_cons_of_mem _ hx))
    rw [Lib.join_cons, List.length_append, List.length_cons, Nat.mul_succ]
    omega
theorem joinB_size {c : Nat} {ls : List ByteArray} {s : ByteArray} (hs : s.size ≤ 1) (h : ∀ x ∈ ls, x.size ≤ c) : (joinB ls s).size ≤ (c + 1) * ls.length := by
  unfold joinB
  rw [ofL_size]
  have := join_len (c := c) s.data.toList (by rw [← bsize]; exact hs) (ls.map (·.data.toList)) (fun x hx => by obtain ⟨y, hy, rfl⟩ := List.mem_map.1 hx; rw [← bsize]; exact h y hy)
  rwa [List.length_map] at this
theorem implJoin_eq {ls : List ByteArray} {s : ByteArray} (hs : s.size ≤ 1) (h : ∀ x ∈ ls, x.size ≤ 1000) (hl : ls.length ≤ 1048576) : impl_Join.f ls s = some (joinB ls s) := by
  unfold impl_Join.f
  have h1 := joinB_size hs h
  unfold joinB at h1
  rw [ofL_size] at h1
  rw [if_pos ⟨by omega, by omega⟩]
  rfl
def nums8 (l : List UInt8) : List Int := l.map (fun b => (b.toNat : Int))
theorem nums8_app (a b : List UInt8) : nums8 (a ++ b) = nums8 a ++ nums8 b := List.map_append
theorem nums8_bytes (b : ByteArray) : bytesOf b = nums8 b.data.toList := rfl
theorem nums8_str (l : List UInt8) : strOfNums (nums8 l) = ofL l := by
  unfold strOfNums nums8 ofL
  rw [List.map_map]
  congr 1
  congr 1
  conv => rhs; rw [← List.map_id l]
  refine List.map_congr_left fun b _ => ?_
  simp
theorem specJoin_ev (ls : List ByteArray) (s : ByteArray) (hs : s.size ≤ 1) (h : ∀ x ∈ ls, x.size ≤ 1000) (hl : ls.length ≤ 1048576) : Ev (fun k => spec_Join.f k ls s) (joinB ls s) := by
  unfold spec_Join.f
  have hb : ∀ i, (Lib.join ((ls.take i).map (·.data.toList)) s.data.toList).length ≤ 1001 * 1048576 := fun i => by
    have h1 := joinB_size (c := 1000) hs (fun x hx => h x (List.mem_of_mem_take hx) : ∀ x ∈ ls.take i, x.size ≤ 1000)
    unfold joinB at h1
    rw [ofL_size] at h1
    have h2 : (ls.take i).length ≤ ls.length := by rw [List.length_take]; omega
    omega
  have key : ∀ d i, i + d = ls.length → Ev (fun k => spec_Join.l0 k ls s (nums8 (Lib.join ((ls.take i).map (·.data.toList)) s.data.toList)) (i : Int)) (joinB ls s) := by
    intro d
    induction d with
    | zero =>
      intro i hi
      refine Ev.step (fun k => by rw [spec_Join.l0]) (ev_neg (by omega) (ev_val ?_))
      rw [List.take_of_length_le (by omega), nums8_str]
      rfl
    | succ d ih =>
      intro i hi
      have hlt : i < ls.length := by omega
      have hx : rdOf ByteArray.empty ls (i : Int) = ls[i] := by unfold rdOf; rw [Int.toNat_natCast, List.getD_eq_getElem?_getD, List.getElem?_eq_getElem hlt]; rfl
      have hxs := h _ (List.getElem_mem hlt)
      have hbi := hb i
      have hn : ∀ l : List UInt8, (nums8 l).length = l.length := fun l => List.length_map _
      have ht : (ls.take (i + 1)).map (·.data.toList) = (ls.take i).map (·.data.toList) ++ [ls[i].data.toList] := by rw [List.take_succ_eq_append_getElem hlt, List.map_append]; rfl
      refine Ev.step (fun k => by rw [spec_Join.l0]) (ev_pos (by omega) (ev_ite (fun h0 => ?_) (fun h0 => ?_)))
      · have hne : (ls.take i).map (·.data.toList) ≠ [] := by
          intro e
          have := congrArg List.length e
          rw [List.length_map, List.length_take, List.length_nil] at this
          omega
        refine ev_pos (by rw [hn]; omega) (ev_bindc rfl (ev_pos (by omega) ?_))
        rw [hx]
        refine ev_pos (by rw [List.length_append, hn, bytesOf_length]; omega) ?_
        rw [wrap_succ (by omega), nums8_bytes, nums8_bytes, ← nums8_app, ← nums8_app, List.append_assoc, ← join_snoc _ _ _ hne, ← ht]
        exact ih (i + 1) (by omega)
      · have hi0 : i = 0 := by omega
        subst hi0
        refine ev_pos (by omega) ?_
        rw [hx]
        refine ev_pos (by rw [hn]; omega) ?_
        have ih1 := ih 1 (by omega)
        rw [ht] at ih1
        rw [show wrap64 (((0 : Nat) : Int) + 1) = ((1 : Nat) : Int) from by rw [wrap_succ (by omega)], nums8_bytes, ← nums8_app]
        have e1 : Lib.join ((ls.take 0).map (·.data.toList)) s.data.toList ++ ls[0].data.toList = Lib.join ((ls.take 0).map (·.data.toList) ++ [ls[0].data.toList]) s.data.toList := by
          rw [List.take_zero, List.map_nil, List.nil_append, Lib.join_one]; rfl
        rw [e1]
        exact ih1
  exact key ls.length 0 (by omega)
end Go.Proofs.YtaghidcmefbjdaaDoor.Q
