/- Reading a word from a text, of the program and of the reference; condition: at most 2^20 bytes. -/
import Derived.Test.YtpandocpclecgaaDoorF0
import Derived.Test.YtpandocpclecgaaDoorF2
import Derived.Test.YtpandocpclecgaaDoorQBase
import Derived.Test.YtpandocpclecgaaDoorQIsWord
import Derived.Test.YtpandocpclecgaaDoorQText
set_option linter.unusedVariables false
set_option linter.unusedSimpArgs false
namespace Go.Proofs.YtpandocpclecgaaDoor.Q
open Go.RowKit Go.Proofs.YtpandocpclecgaaDoor.F Go.Proofs.YtpandocpclecgaaDoorW.PrintWords Go.Proofs.YtpandocpclecgaaDoorW.PrintLast Go.Proofs.YtpandocpclecgaaDoorW.PrintMore
def digits (s : ByteArray) : List Int := (List.range s.size).map (fun (i : Nat) => bt s (i : Int) - 48)
theorem digits_length (s : ByteArray) : (digits s).length = s.size := by simp [digits]
theorem digits_take (s : ByteArray) (i : Nat) (h : i < s.size) : (digits s).take (i + 1) = (digits s).take i ++ [bt s (i : Int) - 48] := by
  rw [List.take_succ_eq_append_getElem (by rw [digits_length]; exact h)]
  congr 2
  simp [digits]
theorem digit_wrap (s : ByteArray) (i : Int) : wrap64 ((wrap64 (bt s i)) - 48) = bt s i - 48 := by
  have := bt_range s i
  have e : wrap64 (bt s i) = bt s i := wrap_id (by omega) (by omega)
  rw [e, wrap_id (by omega) (by omega)]
def parseEnd (s : ByteArray) (w : List Int) : List Int × Bool := if (wordText w).toList = s.toList then (w, true) else ([], false)
def parse (s : ByteArray) : List Int × Bool := parseEnd s (if s.toList = [45] then [] else digits s)
theorem parse_le (s : ByteArray) (hs : s.size ≤ 1048576) : (parse s).1.length ≤ 1048576 := by
  unfold parse parseEnd
  by_cases h : s.toList = [45]
  · rw [if_pos h]
    split <;> simp
  · rw [if_neg h]
    split
    · dsimp only
      rw [digits_length]; exact hs
    · simp
theorem spec_parse_l0 (s : ByteArray) (hs : s.size ≤ 1048576) (h : s.toList ≠ [45]) : ∀ (d i : Nat), i + d = s.size → Ev (fun k => spec_ParseWord.l0 k s ((digits s).take i) (i : Int)) (parseEnd s (digits s))
  | 0, i, hi => by
    refine Ev.step (fun k => by rw [spec_ParseWord.l0]) ?_
    rw [List.take_of_length_le (by rw [digits_length]; omega)]
    refine ev_neg (by omega) (Ev.bind (spec_WordText_ev _ (by rw [digits_length]; exact hs)) ?_)
    unfold parseEnd
    exact ev_ite (fun h1 => ev_val (by rw [if_pos h1])) (fun h1 => ev_val (by rw [if_neg h1]))
  | d + 1, i, hi => by
    refine Ev.step (fun k => by rw [spec_ParseWord.l0]) ?_
    refine ev_pos (by omega) (ev_neg h (ev_pos (by omega) (ev_pos (by rw [List.length_take, digits_length]; omega) ?_)))
    rw [digit_wrap, ← digits_take s i (by omega), wrap_succ (by omega)]
    exact spec_parse_l0 s hs h d (i + 1) (by omega)
theorem spec_ParseWord_ev (s : ByteArray) (hs : s.size ≤ 1048576) : Ev (fun k => spec_ParseWord.f k s) (parse s) := by
  unfold spec_ParseWord.f parse
  by_cases h : s.toList = [45]
  · rw [if_pos h]
    have hz : s.size = 1 := by
      have e := congrArg List.length h
      rw [ByteArray.toList_eq] at e
      simpa using e
    refine Ev.step (fun k => by rw [spec_ParseWord.l0]) ?_
    refine ev_pos (by omega) (ev_pos h (Ev.bind (spec_WordText_ev [] (by simp)) ?_))
    unfold parseEnd
    exact ev_ite (fun h1 => ev_val (by rw [if_pos h1])) (fun h1 => ev_val (by rw [if_neg h1]))
  · rw [if_neg h]
    exact spec_parse_l0 s hs h s.size 0 (by omega)
theorem impl_parse_l0 (s : ByteArray) (hs : s.size ≤ 1048576) : ∀ (d i : Nat), i + d = s.size → Ev (fun k => impl_ParseWord.l0 k s ((digits s).take i) (s.size : Int) (i : Int)) (parseEnd s (digits s))
  | 0, i, hi => by
    refine Ev.step (fun k => by rw [impl_ParseWord.l0]) ?_
    rw [List.take_of_length_le (by rw [digits_length]; omega)]
    refine ev_neg (by omega) (Ev.bind (impl_WordText_ev _) ?_)
    unfold parseEnd
    exact ev_ite (fun h1 => ev_val (by rw [if_pos h1])) (fun h1 => ev_val (by rw [if_neg h1]))
  | d + 1, i, hi => by
    refine Ev.step (fun k => by rw [impl_ParseWord.l0]) ?_
    refine ev_pos (by omega) (ev_pos (by omega) (ev_pos (by omega) (ev_pos (by rw [List.length_take, digits_length]; omega) ?_)))
    rw [digit_wrap, ← digits_take s i (by omega), wrap_succ (by omega)]
    exact impl_parse_l0 s hs d (i + 1) (by omega)
theorem impl_ParseWord_ev (s : ByteArray) (hs : s.size ≤ 1048576) : Ev (fun k => impl_ParseWord.f k s) (parse s) := by
  unfold impl_ParseWord.f parse
  refine ev_bindc rfl (ev_ite (fun h => ?_) (fun h => ?_))
  · rw [if_pos h]
    refine Ev.bind (impl_WordText_ev []) ?_
    unfold parseEnd
    exact ev_ite (fun h1 => ev_val (by rw [if_pos h1])) (fun h1 => ev_val (by rw [if_neg h1]))
  · rw [if_neg h]
    exact impl_parse_l0 s hs s.size 0 (by omega)
end Go.Proofs.YtpandocpclecgaaDoor.Q
