/- The text of a word, of the program and of the reference: its digits one after another, "-" for the empty word, nothing where it is no word; condition: at most 2^20 elements. -/
import Derived.Test.YtpandocpclecgaaDoorF0
import Derived.Test.YtpandocpclecgaaDoorF1
import Derived.Test.YtpandocpclecgaaDoorF2
import Derived.Test.YtpandocpclecgaaDoorQBase
import Derived.Test.YtpandocpclecgaaDoorQIsIn
import Derived.Test.YtpandocpclecgaaDoorQIsWord
import Derived.Lib.Join
set_option linter.unusedVariables false
set_option linter.unusedSimpArgs false
namespace Go.Proofs.YtpandocpclecgaaDoor.Q
open Go.RowKit Go.Proofs.YtpandocpclecgaaDoor.F Go.Proofs.YtpandocpclecgaaDoorW.PrintWords Go.Proofs.YtpandocpclecgaaDoorW.PrintLast Go.Proofs.YtpandocpclecgaaDoorW.PrintMore
def tx (x : List Int) : ByteArray := strOfNums (x.map (fun v => 48 + v))
theorem tx_size (x : List Int) : (tx x).size = x.length := by unfold tx; rw [strOfNums_size, List.length_map]
theorem str_append (a b : List Int) : strOfNums a ++ strOfNums b = strOfNums (a ++ b) := by
  apply ByteArray.ext
  simp [strOfNums, ByteArray.data_append]
theorem tx_append (a b : List Int) : tx a ++ tx b = tx (a ++ b) := by unfold tx; rw [str_append, List.map_append]
theorem tx_nil : (⟨#[]⟩ : ByteArray) = tx [] := rfl
def wordText (x : List Int) : ByteArray := if isWord x then (if x.length = 0 then ⟨#[45]⟩ else tx x) else ⟨#[]⟩
theorem spec_FormatInt_ev (v : Int) (h : 1 ≤ v ∧ v ≤ 9) : Ev (fun k => spec_FormatInt.f k v) (tx [v]) := by
  have e1 : Int.tmod v 10 = v := Int.tmod_eq_of_lt (by omega) (by omega)
  have e2 : Int.tdiv v 10 = 0 := by rw [Int.tdiv_eq_ediv_of_nonneg (by omega)]; omega
  have e3 : strOfNums [(wrap64 (48 + v)) % 256] = tx [v] := by
    rw [wrap_id (by omega) (by omega), Int.emod_eq_of_lt (by omega) (by omega)]
    rfl
  unfold spec_FormatInt.f
  rw [decide_eq_false (by omega : ¬ v < 0)]
  refine ev_neg (by omega) ?_
  refine Ev.step (fun k => by rw [spec_FormatInt.l0]) ?_
  rw [e1, e2]
  refine ev_neg (by omega) (ev_neg (by omega) (ev_bindc rfl ?_))
  rw [e3, tx_nil, tx_append]
  refine ev_pos (by rw [tx_size, tx_size, List.length_singleton, List.length_nil]; omega) ?_
  refine Ev.step (fun k => by rw [spec_FormatInt.l0]) ?_
  exact ev_pos (wrap_id (by decide) (by decide)) (ev_neg (by simp) (ev_val rfl))
theorem spec_text_l0 (x : List Int) (h9 : ∀ v ∈ x, 1 ≤ v ∧ v ≤ 9) (hl : x.length ≤ 9) : ∀ (d i : Nat), i + d = x.length → Ev (fun k => spec_WordText.l0 k x (tx (x.take i)) (i : Int)) (tx x)
  | 0, i, hi => by
    refine Ev.step (fun k => by rw [spec_WordText.l0]) ?_
    exact ev_neg (by omega) (ev_val (by rw [List.take_of_length_le (by omega)]))
  | d + 1, i, hi => by
    have hlt : i < x.length := by omega
    have hm := h9 _ (rd_mem x i hlt)
    refine Ev.step (fun k => by rw [spec_WordText.l0]) ?_
    refine ev_pos (by omega) (ev_pos (by omega) (Ev.bind (spec_FormatInt_ev _ hm) (ev_pos (by rw [tx_size, tx_size, List.length_take, List.length_singleton]; omega) ?_)))
    rw [tx_append, ← take_rd x i hlt, wrap_succ (by omega)]
    exact spec_text_l0 x h9 hl d (i + 1) (by omega)
theorem spec_WordText_ev (x : List Int) (hl : x.length ≤ 1048576) : Ev (fun k => spec_WordText.f k x) (wordText x) := by
  unfold spec_WordText.f wordText
  refine Ev.bind (spec_IsWord_ev x hl) (ev_ite (fun h => ?_) (fun h => ev_val ?_))
  · rw [if_pos h]
    obtain ⟨h1, h2⟩ := isWord_iff.1 h
    refine ev_ite (fun h0 => ev_val ?_) (fun h0 => ?_)
    · rw [if_pos (by omega)]
    · rw [if_neg (by omega), tx_nil]
      exact spec_text_l0 x h2 h1 x.length 0 (by omega)
  · rw [if_neg h]
theorem impl_FormatInt_eq (v : Int) (h : 1 ≤ v ∧ v ≤ 9) : impl_FormatInt.f v = some (tx [v]) := by
  unfold impl_FormatInt.f
  rw [if_pos (by omega), Lib.decDigits, dif_pos (by omega)]
  have e : (48 + v).toNat = 48 + v.toNat := by omega
  simp only [tx, List.map_cons, List.map_nil, strOfNums, e]
theorem join_nosep (ls : List (List UInt8)) : Lib.join ls [] = ls.flatten := by
  cases ls with
  | nil => rfl
  | cons x r =>
    rw [Lib.join_cons, Lib.joinTail, List.flatten_cons]
    congr 2
    simp
theorem tx_join (x : List Int) : ((x.map (fun v => tx [v])).map (·.data.toList)).flatten = (tx x).data.toList := by
  induction x with
  | nil => rfl
  | cons v x ih =>
    rw [List.map_cons, List.map_cons, List.flatten_cons, ih]
    rfl
theorem impl_joined_l0 (x : List Int) (h9 : ∀ v ∈ x, 1 ≤ v ∧ v ≤ 9) (hl : x.length ≤ 9) : ∀ (d i : Nat), i + d = x.length → Ev (fun k => impl_joined.l0 k ⟨#[]⟩ ((x.take i).map (fun v => tx [v])) x (x.length : Int) (i : Int)) (tx x)
  | 0, i, hi => by
    refine Ev.step (fun k => by rw [impl_joined.l0]) ?_
    have e : impl_Join.f ((x.take i).map (fun v => tx [v])) ⟨#[]⟩ = some (tx x) := by
      unfold impl_Join.f
      rw [List.take_of_length_le (by omega), join_nosep, tx_join]
      rw [if_pos ⟨by rw [List.length_map]; omega, by
        have := tx_size x
        simp only [ByteArray.size, Array.length_toList] at this ⊢
        omega⟩]
    exact ev_neg (by omega) (ev_bindc e (ev_val rfl))
  | d + 1, i, hi => by
    have hlt : i < x.length := by omega
    have hm := h9 _ (rd_mem x i hlt)
    refine Ev.step (fun k => by rw [impl_joined.l0]) ?_
    refine ev_pos (by omega) (ev_pos (by omega) (ev_pos (by omega) (ev_bindc (impl_FormatInt_eq _ hm) (ev_pos (by rw [List.length_map, List.length_take]; omega) ?_))))
    rw [wrap_succ (by omega)]
    have := impl_joined_l0 x h9 hl d (i + 1) (by omega)
    rw [take_rd x i hlt, List.map_append, List.map_cons, List.map_nil] at this
    exact this
theorem impl_WordText_ev (x : List Int) : Ev (fun k => impl_WordText.f k x) (wordText x) := by
  unfold impl_WordText.f wordText
  refine ev_bindc (impl_IsWord_eq x) (ev_ite (fun h => ?_) (fun h => ev_val ?_))
  · rw [if_pos h]
    obtain ⟨h1, h2⟩ := isWord_iff.1 h
    refine ev_ite (fun h0 => ev_val ?_) (fun h0 => ?_)
    · rw [if_pos (by omega)]
    · rw [if_neg (by omega)]
      unfold impl_joined.f
      refine Ev.bind (r := tx x) (impl_joined_l0 x h2 h1 x.length 0 (by omega)) (ev_val rfl)
  · rw [if_neg h]
end Go.Proofs.YtpandocpclecgaaDoor.Q
