/- slices.Repeat of one pair of whole numbers, as often as is told; condition: at most nine times. -/
import Derived.Test.YtekjnjejgefbhaaF0
import Derived.Test.YtekjnjejgefbhaaF3
import Derived.Test.YtekjnjejgefbhaaQBase
import Derived.Test.YtekjnjejgefbhaaQKeep
import Derived.Test.YtekjnjejgefbhaaQSteps
import Derived.Test.YtekjnjejgefbhaaQBoxes
import Derived.Laws.CopyRow
import Derived.Laws.CopyOwn
import Derived.Laws.MakeOwn
import Derived.Laws.Tables
import Derived.IntWalk
set_option linter.unusedVariables false
set_option linter.unusedSimpArgs false
namespace Go.Proofs.Ytekjnjejgefbhaa.Q
open Go.RowKit Go.Proofs.Ytekjnjejgefbhaa.F Go.Proofs.YtekjnjejgefbhaaW.PrintWords Go.Proofs.YtekjnjejgefbhaaW.PrintLast Go.Proofs.YtekjnjejgefbhaaW.PrintMore
/-- the cells of n equal pairs -/
def pairC (x y : Int) : Nat → List Value
  | 0 => []
  | n + 1 => .int .i64 x :: .int .i64 y :: pairC x y n
theorem pairC_length (x y : Int) : ∀ n, (pairC x y n).length = 2 * n
  | 0 => rfl
  | n + 1 => by rw [pairC, List.length_cons, List.length_cons, pairC_length x y n]; omega
theorem pairC_add (x y : Int) (m : Nat) : ∀ n, pairC x y n ++ pairC x y m = pairC x y (n + m)
  | 0 => by rw [Nat.zero_add]; rfl
  | n + 1 => by rw [show n + 1 + m = (n + m) + 1 by omega, pairC, pairC, List.cons_append, List.cons_append, pairC_add x y m n]
theorem pairC_one (x y : Int) : ∀ n, ∀ v ∈ pairC x y n, v.oneCell' = true
  | 0, v, h => by simp [pairC] at h
  | n + 1, v, h => by
    rw [pairC, List.mem_cons, List.mem_cons] at h
    rcases h with rfl | rfl | h
    · rfl
    · rfl
    · exact pairC_one x y n v h
/-- the cells behind k pairs of n -/
def pairK (x y : Int) (Z : List Value) (k : Nat) : Array Value := (pairC x y k ++ Z.drop (2 * k)).toArray
theorem pairK_size {x y : Int} {Z : List Value} {k n : Nat} (hZ : Z.length = 2 * n) (hk : k ≤ n) : (pairK x y Z k).size = 2 * n := by
  simp [pairK, pairC_length]; omega
theorem pairK_get {x y : Int} {Z : List Value} {k m j : Nat} (hm : m ≤ k) {v : Value} (h : (pairC x y m)[j]? = some v) : (pairK x y Z k)[j]? = some v := by
  have hj : j < (pairC x y m).length := (List.getElem?_eq_some_iff.1 h).1
  have e : pairC x y m ++ pairC x y (k - m) = pairC x y k := by rw [pairC_add]; congr 1; omega
  rw [pairK, List.getElem?_toArray, ← e, List.append_assoc, List.getElem?_append_left hj]
  exact h
/-- m pairs more -/
theorem pairK_copy {x y : Int} {Z : List Value} {k m n : Nat} (hZ : Z.length = 2 * n) (hk : k + m ≤ n) : ((pairK x y Z k).toList.take (2 * k) ++ pairC x y m ++ (pairK x y Z k).toList.drop (2 * k + (pairC x y m).length)).toArray = pairK x y Z (k + m) := by
  have h1 : (pairK x y Z k).toList = pairC x y k ++ Z.drop (2 * k) := rfl
  rw [h1, List.take_left' (pairC_length x y k), pairC_length, List.drop_append, pairC_length, List.drop_of_length_le (by rw [pairC_length]; omega), List.nil_append, List.drop_drop, pairC_add]
  unfold pairK
  congr 3
  omega
theorem run_copy_pairs {P : Program} (w : World) (t e : TypeId) (g o dLen dCap : Nat) (ad : Addr) (sLen sCap m : Nat) (cur : Array Value) (te : TypeId) (x y : Int)
    (hu : P.underlying t = some (.slice e)) (hs : (P.info? e).map (·.size) = some 2) (hg : w.heap[g]? = some (.cells cur te (0, 0))) (hn : Nat.min sLen dLen = m)
    (hsrc : ∀ j v, (pairC x y m)[j]? = some v → w.cell? (ad.add j) = some v) (hfit : o + 2 * m ≤ cur.size) (ty : TypeId) :
    (Builtin.copy_ #[t, t] ty #[.slice (some ⟨g, o, none⟩) dLen dCap, .slice (some ad) sLen sCap]).run P w = .ok (goInt m) (w.setRow g (cur.toList.take o ++ pairC x y m ++ cur.toList.drop (o + (pairC x y m).length)).toArray) := by
  have hl := run_loadCells_list (P := P) w ad (pairC x y m) hsrc
  rw [pairC_length, Nat.mul_comm] at hl
  have hst := run_storeCells_at P g o te (pairC x y m) 0 cur w hg (by rw [pairC_length]; omega) (pairC_one x y m)
  cases hq : P.info? e with
  | none => simp [hq] at hs
  | some i =>
    have hi : i.size = 2 := by simpa [hq] using hs
    simp [Builtin.copy_, run_underlying hu, Builtin.lenOf, Builtin.firstCells, sizeOf, typeInfo, hq, hi, hn, hl, hst]
theorem copy_list {P : Program} {ops : Array Oper} {rest : List Oper} {oi : Oper} {a : Act} {Q : Exit → Act → World → Prop} {W w' : World} {v u v' : Value} (hgd : oi.guard = none) (d s : Operand) (t : TypeId)
    (ho : oi.op = .call { callee := .builtin .copy, args := #[d, s], argTypes := #[t, t] }) (hd : a.eval d = v) (hs : a.eval s = u) (hr : (Builtin.copy_ #[t, t] oi.type #[v, u]).run P W = .ok v' w') (h : wpList P ops Q rest (a.put oi.dst v') w') : wpList P ops Q (oi :: rest) a W := by
  refine wpList_plain hgd fun _ hK => ?_
  unfold Oper.wp execOp
  simp only [ho, resolve, invoke, builtin, Sem.run_bind, Sem.run_pure, Result.andThen_ok, List.map_toArray, List.map_cons, List.map_nil, hd, hs, hr]
  exact hK _ _ h
theorem copy_step {P : Program} {ops : Array Oper} {oi : Oper} {a : Act} {Q : Exit → Act → World → Prop} {Kc : Act → World → Prop} {W w' : World} {v u v' : Value} (hw : Region.wanted oi (yielded ops a.tmps) = true) (d s : Operand) (t : TypeId)
    (ho : oi.op = .call { callee := .builtin .copy, args := #[d, s], argTypes := #[t, t] }) (hd : a.eval d = v) (hs : a.eval s = u) (hr : (Builtin.copy_ #[t, t] oi.type #[v, u]).run P W = .ok v' w') (h : Kc (a.put oi.dst v') w') :
    if Region.wanted oi (yielded ops a.tmps) = true then Oper.wp P oi a W Kc Q else Kc (a.put oi.dst undef) W := by
  rw [if_pos hw]
  unfold Oper.wp execOp
  simp only [ho, resolve, invoke, builtin, Sem.run_bind, Sem.run_pure, Result.andThen_ok, List.map_toArray, List.map_cons, List.map_nil, hd, hs, hr]
  exact h
theorem bitsMul_small : ∀ n : Fin 10, bits_Mul.f 1 ((n.val : Nat) : Int) = some (0, ((n.val : Nat) : Int)) := by decide
theorem und_pairs : (Try.prog).underlying 57 = some (.slice 59) := by kernel_rfl
theorem info_pair : ((Try.prog).info? 59).map (fun i => (i.zero, i.size, i.bytes)) = some (some (.agg #[.int .i64 0, .int .i64 0]), 2, 16) := by kernel_rfl
theorem info_pair2 : ((Try.prog).info? 59).map (·.size) = some 2 := by kernel_rfl
/-- the made row of noughts -/
theorem make_pairs {oi : Oper} {a : Act} {x y : Operand} (ho : oi.op = .makeSlice 57 x y) (n : Nat) (hx : a.eval x = .int .i64 (n : Int)) (hy : a.eval y = .int .i64 (n : Int)) (hn : n ≤ 9) (W : World) :
    (execOp a.eval oi).run Try.prog W = .ok (.value (.slice (some ⟨W.heap.size, 0, none⟩) n n)) (W.alloc (.cells (madeCells #[.int .i64 0, .int .i64 0] (n * 2)) 59 (0, 0))) := by
  obtain ⟨i0, hi, hzz⟩ := Option.map_eq_some_iff.1 info_pair
  simp only [Prod.mk.injEq] at hzz
  obtain ⟨hz0, hz1, hz2⟩ := hzz
  have hr := run_make (P := Try.prog) W 57 59 i0 _ und_pairs hi hz0 .i64 .i64 (n : Int) (n : Int) (by omega) (by omega) (by rw [hz2]; omega) (by omega)
  simp only [Int.toNat_natCast] at hr
  rw [hz1] at hr
  simp [execOp, ho, hx, hy, hr]
  rfl
theorem copy_stage {W w0 : World} {B g o k m n dLen sLen sCap dCap : Nat} {x y : Int} {Z : List Value} {ad : Addr} (hg : W.heap[g]? = some (.cells (pairK x y Z k) 59 (0, 0))) (hZ : Z.length = 2 * n) (hkm : k + m ≤ n) (hmin : Nat.min sLen (n - k) = m) (ho : o = 2 * k) (hd : dLen = n - k)
    (hsrc : ∀ j v, (pairC x y m)[j]? = some v → W.cell? (ad.add j) = some v) (hB : Below B w0 W) (hBg : B ≤ g) (ty : TypeId) :
    ∃ w3, (Builtin.copy_ #[57, 57] ty #[.slice (some ⟨g, o, none⟩) dLen dCap, .slice (some ad) sLen sCap]).run Try.prog W = .ok (.int .i64 (m : Int)) w3 ∧ w3.heap[g]? = some (.cells (pairK x y Z (k + m)) 59 (0, 0)) ∧ Below B w0 w3 := by
  subst ho hd
  have h1 := run_copy_pairs (P := Try.prog) W 57 59 g (2 * k) (n - k) dCap ad sLen sCap m _ 59 x y und_pairs info_pair2 hg hmin hsrc (by rw [pairK_size hZ (by omega)]; omega) ty
  rw [pairK_copy hZ hkm] at h1
  exact ⟨_, h1, setRow_heap W g _ _ _ _ hg, below_setRow hB hBg _⟩
theorem src_one {W : World} {b : Nat} {x y : Int} (h : W.heap[b]? = some (.cells #[.int .i64 x, .int .i64 y] 59 (0, 0))) (n : Nat) : ∀ j v, (pairC x y (Nat.min 1 n))[j]? = some v → W.cell? ((⟨b, 0, none⟩ : Addr).add j) = some v := by
  intro j v hj
  have hle : Nat.min 1 n ≤ 1 := Nat.min_le_left 1 n
  rw [show (⟨b, 0, none⟩ : Addr).add j = ⟨b, j, none⟩ from by rw [add_at, Nat.zero_add], blk_cell h j]
  generalize hm : Nat.min 1 n = m at hj hle
  have h2 : m = 0 ∨ m = 1 := by omega
  rcases h2 with rfl | rfl
  · simp [pairC] at hj
  · rw [← hj]; simp [pairC]
theorem src_held {W : World} {g k m : Nat} {x y : Int} {Z : List Value} (h : W.heap[g]? = some (.cells (pairK x y Z k) 59 (0, 0))) (hm : m ≤ k) : ∀ j v, (pairC x y m)[j]? = some v → W.cell? ((⟨g, 0, none⟩ : Addr).add j) = some v := by
  intro j v hj
  rw [show (⟨g, 0, none⟩ : Addr).add j = ⟨g, j, none⟩ from by rw [add_at, Nat.zero_add], blk_cell h j]
  exact pairK_get hm hj
set_option maxHeartbeats 4000000 in
set_option maxRecDepth 100000 in
theorem repeat_calls (b : Nat) (x y : Int) (n : Nat) (w : World) (hn : n ≤ 9) (hb : w.heap[b]? = some (.cells #[.int .i64 x, .int .i64 y] 59 (0, 0))) :
    Calls Try.prog 72 #[.slice (some ⟨b, 0, none⟩) 1 1, .int .i64 (n : Int)] w fun e w' => ∃ g, e = .returned (.slice (some ⟨g, 0, none⟩) n n) ∧ w'.heap[g]? = some (.cells (pairC x y n).toArray 59 (0, 0)) ∧ g = w.heap.size ∧ Below w.heap.size w w' := by
  have HM : Aside0 (bits_Mul.f 1 (n : Int) = some (0, (n : Int))) := ⟨bitsMul_small ⟨n, by omega⟩⟩
  have HB := Aside0.mk hb
  have hneg : decide ((n : Int) < 0) = false := decide_eq_false (by omega)
  have hwn : IntKind.u64.wrap (n : Int) = (n : Int) := by unfold IntKind.wrap; simp [IntKind.bits, IntKind.signed]; omega
  have hlo : decide (9223372036854775807 < (n : Int)) = false := decide_eq_false (by omega)
  have hwi : IntKind.i64.wrap (n : Int) = (n : Int) := IntWalk.i64_in _ (by omega)
  obtain ⟨k0, hk0⟩ : ∃ k0, k0 = Nat.min 1 n := ⟨_, rfl⟩
  have K0 : Aside0 (k0 ≤ n ∧ (0 < n → 0 < k0) ∧ Nat.min 1 (n - 0) = k0) := ⟨by rw [hk0]; exact ⟨Nat.min_le_right 1 n, fun h => by rw [show Nat.min 1 n = 1 from Nat.min_eq_left h]; decide, rfl⟩⟩
  have hk0n := K0.out.1
  clear hb hk0
  go_enter Try.func72, Try.ntmps72
  go_wp2_with (first
    | (go_at_call 75; refine (bits_Mul.calls 1 (n : Int) 0 (n : Int) _ HM.out).mono ?_; rintro e w1 ⟨rfl, hd⟩; have D1 := Aside0.mk hd; clear hd)
    | ((with_reducible refine gate_dst (N := 30) rfl ?_); refine lit_event ?hg (N := 30) ?hd (cs := madeCells #[.int .i64 0, .int .i64 0] (n * 2)) (t := 59) (n := n) ?hr ?_; (case hd => rfl); (case hg => rfl); (case hr => exact make_pairs rfl n rfl rfl hn _); intro g hg w2 hx2 hl2; obtain ⟨Z, hZ⟩ : ∃ Z, Z = (madeCells #[.int .i64 0, .int .i64 0] (n * 2)).toList := ⟨_, rfl⟩; have hZl : Z.length = 2 * n := (by rw [hZ, Array.length_toList, size_madeCells]; omega); have hx3 : w2.heap[g]? = some (.cells (pairK x y Z 0) 59 (0, 0)) := (by rw [hx2, hZ]; simp [pairK, pairC]); have D1' := D1.out.below; have hlt1 := blk_lt HB.out; have hsz1 : w.heap.size ≤ g := (by rw [hg]; exact D1'.size); have hL2 : Below w.heap.size w w2 := D1'.trans (hl2.mono D1'.size); have hb2 : w2.heap[b]? = some (.cells #[.int .i64 x, .int .i64 y] 59 (0, 0)) := (hL2.block b hlt1).trans HB.out; have hg0 : g = w.heap.size := (by rw [hg]; obtain ⟨q_, hq_⟩ := D1.out; rw [hq_]; rfl); obtain ⟨w3, hr3, hx4, hL3⟩ := copy_stage (m := k0) (dLen := n) (sLen := 1) (sCap := 1) (dCap := n) (ad := ⟨b, 0, none⟩) (o := 0) hx3 hZl (by rw [Nat.zero_add]; omega) K0.out.2.2 rfl rfl (by rw [K0.out.2.2.symm]; exact src_one hb2 n) hL2 hsz1 3; have X3 := Aside0.mk hx4; have L3 := Aside0.mk hL3; have HZ := Aside0.mk hZl; have G0 := Aside0.mk hg0; clear hg hZ hx2 hx3 hl2 hL2 hb2 hx4 hL3 hZl D1' hlt1 hsz1 hg0))
  rw [Nat.zero_add] at X3
  go_loopg [8] n (fun kq v8 wr => ∃ k : Nat, k ≤ n ∧ (0 < n → 0 < k) ∧ n - k ≤ kq ∧ v8 = .int .i64 (k : Int) ∧ Aside0 (wr.heap[g]? = some (.cells (pairK x y Z k) 59 (0, 0))) ∧ Aside0 (Below w.heap.size w wr))
  case atStart => exact ⟨k0, hk0n, K0.out.2.1, by omega, rfl, X3, L3⟩
  case round =>
    clear X3 L3 hk0n
    obtain ⟨k, hkn, hk0, hg, rfl, X, L⟩ := hrel
    by_cases hlt : k < n
    · have hltz : (k : Int) < (n : Int) := by omega
      have hlez : (k : Int) ≤ (n : Int) := by omega
      have hk1 := hk0 (by omega)
      obtain ⟨m, hm, hm0, hmk, hmn⟩ : ∃ m, Nat.min k (n - k) = m ∧ 0 < m ∧ m ≤ k ∧ k + m ≤ n := by
        rcases Nat.le_total k (n - k) with h | h
        · exact ⟨k, Nat.min_eq_left h, hk1, Nat.le_refl k, by omega⟩
        · exact ⟨n - k, Nat.min_eq_right h, by omega, h, by omega⟩
      have hx := blk_drew X.out
      obtain ⟨w4, hr4, hx4, hL4⟩ := copy_stage (m := m) (dLen := n - k) (sLen := k) (sCap := n) (dCap := n - k) (ad := ⟨g, 0, none⟩) (o := k * 2) hx HZ.out hmn hm (Nat.mul_comm _ _) rfl (src_held hx hmk) (below_drew L.out) (by rw [G0.out]; exact Nat.le_refl _) 3
      have X4 := Aside0.mk hx4
      have L4 := Aside0.mk hL4
      clear hm hx hx4 hL4 X L hk0
      go_wp2
      go_region
      go_wp2
      go_roundg (n - (k + m))
      case measure => omega
      case rel => exact ⟨k + m, hmn, by omega, by omega, by go_num, X4, L4⟩
    · have hkn2 : k = n := by omega
      subst hkn2
      have hltz : ¬ (k : Int) < (k : Int) := by omega
      have e : pairK x y Z k = (pairC x y k).toArray := by
        unfold pairK
        rw [List.drop_of_length_le (by rw [HZ.out]; exact Nat.le_refl _), List.append_nil]
      have X5 := X.out
      rw [e] at X5
      have X6 := Aside0.mk X5
      clear X X5 e hlt
      go_wp2
      go_ret
      exact ⟨g, by simp, X6.out, G0.out, L.out⟩
end Go.Proofs.Ytekjnjejgefbhaa.Q
