/- For each Go function named below: the plain Lean function that it computes, and that its call returns just that; conditions: those that each theorem names. -/
import Derived.Test.YtljjjdgnpnnmoaaF0
import Derived.Test.YtljjjdgnpnnmoaaF11
namespace Go.Proofs.Ytljjjdgnpnnmoaa.F
open Go.RowKit Go.Proofs.YtljjjdgnpnnmoaaW.PrintWords Go.Proofs.YtljjjdgnpnnmoaaW.PrintLast Go.Proofs.YtljjjdgnpnnmoaaW.PrintMore
attribute [local go_sem] max2_int min2_int max_two min_two max_three min_three max_four min_four   -- for this text's walks alone
set_option linter.unusedVariables false
set_option linter.unusedSimpArgs false

def bumpC (r : List Int) (x : Int) : Int := idxFrom (fun n => decide (x ≤ n)) r 0
theorem idxFromC_range (p : Int → Bool) (l : List Int) : ∀ k : Nat, idxFrom p l k = -1 ∨ ((k : Int) ≤ idxFrom p l k ∧ idxFrom p l k < ((k + l.length : Nat) : Int)) := by
  induction l with
  | nil => intro k; exact .inl rfl
  | cons x l ih =>
    intro k
    simp only [idxFrom, List.length_cons]
    by_cases h : p x = true
    · rw [if_pos h]; exact .inr ⟨by omega, by omega⟩
    · rw [if_neg h]
      rcases ih (k + 1) with h1 | h1
      · exact .inl h1
      · exact .inr ⟨by omega, by omega⟩
theorem bumpC_range (r : List Int) (x : Int) : bumpC r x = -1 ∨ (0 ≤ bumpC r x ∧ bumpC r x < (r.length : Int)) := by
  have := idxFromC_range (fun n => decide (x ≤ n)) r 0
  unfold bumpC; simpa using this
def insCols : List (List Int) → Int → List (List Int)
  | [], x => [[x]]
  | r :: l, x => if bumpC r x < 0 then (r ++ [x]) :: l else r.set (bumpC r x).toNat x :: insCols l (rd r (bumpC r x))
theorem insertBelow_lit (n x : Int) (bx : Nat) (w : World) (hx : w.heap[bx]? = some (.cells #[.int .i64 x] 3 (0, 0))) : Calls Try.prog 88 #[.int .i64 n, .pointer (some ⟨bx, 0, none⟩)] w fun e w' => e = .returned (.bool (decide (x ≤ n))) ∧ w = w' := by
  have h1 : w.cell? ⟨bx, 0, none⟩ = some (.int .i64 x) := (blk_cell hx 0).trans rfl
  go_enter Try.func88, Try.ntmps88
  go_wp2
  go_ret
  exact ⟨by simp, rfl⟩
theorem R_oneC (W : World) (base t : Nat) (x : Int) (hb : base ≤ W.heap.size) : (Kd.int .i64).R t (W.alloc (.cells #[.int .i64 x] t (0, 0))) base (fun k => k = W.heap.size) (.slice (some ⟨W.heap.size, 0, none⟩) 1 1) [x] := by
  refine ⟨fun k hk => ?_, [.int .i64 x], ?_, ?_⟩
  · have : W.heap.size = k := by simpa [Value.ownBlock] using hk
    exact this.symm
  · have h2 := World.ownsRow_lit (base := base) (e := t) (size := 1) W #[.int .i64 x] 1 hb (by simp [maxLen]) rfl
    show (W.alloc (.cells #[.int .i64 x] t (0, 0))).ownsRow base t 1 (.slice (some ⟨W.heap.size, 0, none⟩) 1 1) 1 [.int .i64 x]
    simpa using h2
  · refine ⟨rfl, fun i p hp => ?_⟩
    cases i with
    | zero =>
      obtain rfl : x = p := by simpa using hp
      rfl
    | succ i => simp at hp
theorem setC_take_succ {α : Type} (l : List α) (i : Nat) (q : α) (h : i < l.length) : (l.set i q).take (i + 1) = l.take i ++ [q] := by
  have e : (l.take i).length = i := by rw [List.length_take]; omega
  rw [List.set_eq_take_append_cons_drop, if_pos h, List.take_append, List.take_of_length_le (by omega), e, show i + 1 - i = 1 by omega]
  rfl
theorem setC_drop_succ {α : Type} (l : List α) (i : Nat) (q : α) (h : i < l.length) : (l.set i q).drop (i + 1) = l.drop (i + 1) := by
  have e : (l.take i).length = i := by rw [List.length_take]; omega
  rw [List.set_eq_take_append_cons_drop, if_pos h, List.drop_append, List.drop_of_length_le (by omega), e, show i + 1 - i = 1 by omega]
  rfl
set_option maxHeartbeats 8000000 in
set_option maxRecDepth 100000 in
theorem insertBelow_calls (w0 w : World) (v : Value) (rows : List (List Int)) (x : Int) (ok : Nat → Prop) (hB : Below w0.heap.size w0 w)
    (hS : Kd.S (Kd.slice 3 (Kd.int .i64)) 22 w w0.heap.size ok v rows) (hl : rows.length ≤ 1000) (hr : ∀ r ∈ rows, r.length ≤ 1000) :
    Calls Try.prog 66 #[v, .int .i64 x] w fun e w' => ∃ v', e = .returned v' ∧ Kd.S (Kd.slice 3 (Kd.int .i64)) 22 w' w0.heap.size (fun k => ok k ∨ w.heap.size ≤ k) v' (insCols rows x) ∧ Below w0.heap.size w0 w' ∧ Kept w w' (fun k => ok k) := by
  have hw0 := hB.size
  obtain ⟨A, c, hu⟩ := Kd.R_slice (Kd.S_R hS)
  subst hu
  have HS := Aside0.mk (Kd.S_mono (Kd.S_bound hS) (ok' := fun k => ok k ∧ k < w.heap.size) (fun k hk => ⟨hk.1, hk.2.2.1⟩))
  have HB := Aside0.mk hB
  have HR := Aside0.mk hr
  have HL := Aside0.mk hl
  clear hS hB hr hl
  go_enter Try.func66, Try.ntmps66
  go_wp2_with ((with_reducible refine gate_dst (N := 3) rfl ?_); refine zX (N := 3) (cs := #[.int .i64 x]) (t := 3) ?_; intro bx hbx w1 hbox hbel; have S1 := Aside0.mk (Kd.S_below HS.out hbel); have B1 := Aside0.mk (below_then HB.out hw0 hbel); have K1 := Aside0.mk (Kept.of_below hbel (fun k => ok k)); have X1 := Aside0.mk hbox; have HBX := Aside0.mk hbx; clear hbox hbel HS HB hbx)
  go_loopg [10] rows.length (fun kq v10 wr => ∃ (i : Nat) (xi : Int) (rs : List (List Int)), i ≤ rows.length ∧ rows.length - i ≤ kq ∧ v10 = .int .i64 i ∧ rs.length = rows.length ∧ Aside0 (insCols rows x = rs.take i ++ insCols (rs.drop i) xi) ∧ Aside0 (∀ r ∈ rs, r.length ≤ 1000) ∧
    Aside0 (Kd.S (Kd.slice 3 (Kd.int .i64)) 22 wr w0.heap.size (fun k => ok k ∧ k < w.heap.size) (.slice A rows.length c) rs) ∧ Aside0 (wr.heap[bx]? = some (.cells #[.int .i64 xi] 3 (0, 0))) ∧ Aside0 (Below w0.heap.size w0 wr) ∧ Aside0 (Kept w wr (fun k => ok k)))
  case atStart => exact ⟨0, x, rows, Nat.zero_le _, by omega, rfl, rfl, ⟨rfl⟩, HR, S1, X1, B1, K1⟩
  case round =>
    clear S1 B1 K1 X1 HR
    obtain ⟨i, xi, rs, hi, hg, rfl, hrs, HI, HR, HS, HX, HB, HK⟩ := hrel
    have hcx : wr.cell? ⟨bx, 0, none⟩ = some (.int .i64 xi) := (blk_cell HX.out 0).trans rfl
    by_cases hlt : i < rows.length
    · have hltz : (i : Int) < (rows.length : Int) := by omega
      obtain ⟨g, cc, e0⟩ : ∃ g cc, (Value.slice A rows.length c) = .slice (some ⟨g, 0, none⟩) rows.length cc := by
        obtain ⟨g, cc, e0, _⟩ := Kd.R_form (Kd.S_R HS.out) (by omega)
        injection e0 with ea el ec
        exact ⟨g, c, by rw [ea]⟩
      injection e0 with ea _ ec
      subst ea ec
      have GO : Aside0 (ok g ∧ w0.heap.size ≤ g) := ⟨((Kd.S_R HS.out).1 g (by simp [Value.ownBlock])).1, Kd.R_base (Kd.S_R HS.out) g (by simp [Value.ownBlock])⟩
      have GX : Aside0 (g ≠ bx) := ⟨by
        obtain ⟨g', cc, e0, _, _, cells, hce⟩ := Kd.R_form (Kd.S_R HS.out) (by omega)
        injection e0 with ea _ _
        injection ea with ea
        injection ea with ea _ _
        rw [← ea] at hce
        exact blk_ne hce HX.out (by decide)⟩
      obtain ⟨oki, cs, hcl, hM, hcc, hfr, hoki, hH⟩ := Kd.S_elem HS.out [] (i : Int) (by omega) (by omega)
      rw [Int.toNat_natCast] at hM
      obtain ⟨v, rfl, hR⟩ := hM
      obtain ⟨A1, c1, e1⟩ := Kd.R_slice hR
      subst e1
      have hx1 := hcc 0 _ rfl
      rw [show (i : Int).toNat * (Kd.slice 3 (Kd.int .i64)).sz + 0 = i from by show (i : Int).toNat * 1 + 0 = i; omega] at hx1
      have hf1 := hfr 0
      rw [show (i : Int).toNat * (Kd.slice 3 (Kd.int .i64)).sz + 0 = i from by show (i : Int).toNat * 1 + 0 = i; omega] at hf1
      have hd : rs.drop i = rs.getD i [] :: rs.drop (i + 1) := by
        rw [List.drop_eq_getElem_cons (by omega), List.getD_eq_getElem?_getD, List.getElem?_eq_getElem (by omega)]; rfl
      have hrl : (rs.getD i []).length ≤ 1000 := HR.out _ (by rw [List.getD_eq_getElem?_getD, List.getElem?_eq_getElem (by omega)]; exact List.getElem_mem _)
      have HI2 := HI.out
      rw [hd] at HI2
      have RO := Aside0.mk hR
      have HO := Aside0.mk hoki
      have HH := Aside0.mk hH
      have HC := Aside0.mk (indexFunc_pred 88 #[.pointer (some ⟨bx, 0, none⟩)] (fun n => decide (xi ≤ n)) (enters_of Try.func88 (by kernel_rfl) rfl) A1 c1 (rs.getD i []) wr (fun W n hd => (insertBelow_lit n xi bx W (by obtain ⟨m, rfl⟩ := hd.out; exact HX.out)).mono fun e w' h => ⟨h.1, h.2 ▸ Drawn0.refl _⟩) (Kd.R_reads' hR).2.2)
      clear HI hd hR hoki hH hcc hfr hcl HS
      rw [show idxFrom (fun n => decide (xi ≤ n)) (rs.getD i []) 0 = bumpC (rs.getD i []) xi from rfl] at HC
      have hci : wr.cell? ⟨g, i, none⟩ = some (.slice A1 (rs.getD i []).length c1) := hx1
      obtain ⟨r, hrr⟩ : ∃ r, r = rs.getD i [] := ⟨_, rfl⟩
      rw [← hrr] at hx1 hci RO HC HH HI2 hrl
      have RR := Aside0.mk hrr
      have HI := Aside0.mk HI2
      clear hrr HI2 hci
      rcases bumpC_range r xi with hbu | ⟨hb0, hb1⟩
      · have HBU := Aside0.mk hbu
        rw [hbu] at HC
        clear hbu
        go_wp2_with (first | (go_at_call 87; refine HC.out.mono ?_; rintro e w6 ⟨rfl, ⟨m6, rfl⟩⟩; have X6 := Aside0.mk (blk_drewN HX.out m6); have hcx6 : (wr.drewN m6).cell? ⟨bx, 0, none⟩ = some (.int .i64 xi) := (blk_cell X6.out 0).trans rfl; clear hcx hx1) | ((with_reducible refine gate_builtin (b := .append) (xs := #[.tmp 22, .tmp 24]) rfl ?_); at_builtin; refine Kd.R_append (Kd.int .i64) (w0 := w0) w0.heap.size rfl (.tmp 22) (.tmp 24) 22 3 (.int .i64 0) 8 rfl Try.underlying22 info3 rfl (by decide) (by omega) (.slice A1 r.length c1) r xi [.int .i64 xi] (fun k => oki k ∨ (ok k ∨ w.heap.size ≤ k) ∧ wr.heap.size ≤ k) (fun _ => False) rfl rfl ?aP (fun _ hk => hk.elim) ?aF ?aO ?aB ?aS ?aL ?_; (case aP => exact rfl); (case aF => exact fun k hk => .inr ⟨.inr (Nat.le_trans HK.out.1 hk), hk⟩); (case aO => exact Kd.R_drewN (Kd.R_mono RO.out (fun _ hk => .inl hk)) m6); (case aB => exact pw_below_drewN HB.out m6); (case aS => exact HB.out.size); (case aL => omega); intro v7 w7 ho hb hg hat; obtain ⟨Ao, co, eo⟩ := Kd.R_slice ho; subst eo; have R7 := Aside0.mk ho; have B7 := Aside0.mk hb; have G7 := Aside0.mk hg; have H7 := Aside0.mk (Kd.H_grown (Kd.H_widen (Kd.H_mono (Kd.H_drewN HH.out m6) (fun k hk => (.inl hk.1 : ok k ∨ w.heap.size ≤ k)))) hg (fun k e => .inl (RO.out.1 k e))); obtain ⟨hc7, hf7⟩ := Kd.H_at H7.out (show (0 : Int) ≤ (i : Int) by omega) (show (i : Int) < (rows.length : Int) by omega); have hx7 := hc7 0 _ rfl; have hy7 := hf7 0; rw [show (i : Int).toNat * (Kd.slice 3 (Kd.int .i64)).sz + 0 = i from by show (i : Int).toNat * 1 + 0 = i; omega] at hx7 hy7; clear ho hb hg hat hc7 hf7))
        go_ret
        have hii : i < rs.length := by omega
        have eI : insCols rows x = rs.set i (r ++ [xi]) := by
          rw [HI.out]
          simp only [insCols]
          rw [if_pos (by rw [HBU.out]; decide), List.set_eq_take_append_cons_drop, if_pos hii]
        have S8 := (Kd.S_seg0 H7.out (show (0 : Int) ≤ (i : Int) by omega) (show (i : Int) < (rows.length : Int) by omega) (seg := [.slice Ao (r ++ [xi]).length co]) (j := 0) (show 1 ≤ 1 from by decide) (x' := r ++ [xi]) (Kd.M_row R7.out) (fun _ hk => hk)).1
        rw [show (i : Int).toNat * (Kd.slice 3 (Kd.int .i64)).sz + 0 = i from by show (i : Int).toNat * 1 + 0 = i; omega, Int.toNat_natCast, show (r ++ [xi]).length = r.length + 1 by simp] at S8
        rw [eI]
        exact ⟨_, rfl, S8, below_set B7.out GO.out.2, ((Kept.of_grown G7.out (Kept.drewN HK.out m6) (fun k e => .inl ((HO.out k (RO.out.1 k e)).1.1))).setCell (.inl GO.out.1) _)⟩
      · obtain ⟨k, hk⟩ : ∃ k : Nat, bumpC r xi = (k : Int) := ⟨(bumpC r xi).toNat, by omega⟩
        rw [hk] at hb1 HC
        have hkl : k < r.length := by omega
        obtain ⟨g2, c2, e2, gb2, gl2, cl2, ht2⟩ := Kd.R_form RO.out (by omega)
        injection e2 with ea el ec
        subst ea
        have GB2 := Aside0.mk gb2
        have KP := Aside0.mk hk
        have K0 := Aside0.mk (show g2 ≠ bx by have := HO.out g2 (RO.out.1 g2 (by simp [Value.ownBlock])); have := HBX.out; omega)
        clear gb2 gl2 ht2 hk hb0 el ec
        go_wp2_with (go_at_call 87; refine HC.out.mono ?_; rintro e w6 ⟨rfl, hd6⟩; have D6 := Aside0.mk hd6.below; clear hd6 hcx hx1)
        have X6 := Aside0.mk (blk_drew (blk_below HX.out D6.out))
        have X5 := Aside0.mk (blk_below HX.out D6.out)
        have R5 := Aside0.mk (Kd.R_below RO.out D6.out)
        have R6 := Aside0.mk (Kd.R_drew (Kd.R_below RO.out D6.out))
        have hcx6 : w6.drew.cell? ⟨bx, 0, none⟩ = some (.int .i64 xi) := (blk_cell X6.out 0).trans rfl
        have hfx6 : w6.drew.frozen? ⟨bx, 0, none⟩ = false := blk_frozen X6.out 0
        obtain ⟨hy6, hz6⟩ := Kd.R_celln 0 R6.out (k : Int) (by omega) (by omega)
        rw [Int.toNat_natCast] at hy6 hz6
        obtain ⟨y, hyy⟩ : ∃ y, y = rd r (k : Int) := ⟨_, rfl⟩
        replace hy6 : w6.drew.cell? ⟨g2, k, none⟩ = some (.int .i64 y) := by rw [hyy]; exact hy6
        have YY := Aside0.mk hyy
        clear hyy
        have R7 := Aside0.mk (Kd.R_far (p := ⟨bx, 0, none⟩) R6.out (fun q hq => by have := HO.out q hq; have := HBX.out; show q ≠ bx; omega) (.int .i64 y))
        have hP8 := Kd.R_putg R7.out (k : Int) xi
        rw [Int.toNat_natCast] at hP8
        have P8 := Aside0.mk hP8
        clear hP8
        have X8 := Aside0.mk (blk_far (p := ⟨g2, k, none⟩) (blk_put (cs' := #[.int .i64 y]) X6.out 0 (.int .i64 y) rfl) (Ne.symm K0.out) (.int .i64 xi))
        have B8 := Aside0.mk (below_set (j := k) (v := .int .i64 xi) (below_set (j := 0) (v := .int .i64 y) (below_drew (below_then HB.out (Nat.le_trans hw0 HK.out.1) D6.out)) (show w0.heap.size ≤ bx by have := HBX.out; omega)) GB2.out)
        have Q8 := Aside0.mk (((HK.out.below D6.out).drew.setCell (p := ⟨bx, 0, none⟩) (.inr (by have := HBX.out; show w.heap.size ≤ bx; omega)) (.int .i64 y)).setCell (p := ⟨g2, k, none⟩) (.inl ((HO.out g2 (RO.out.1 g2 (by simp [Value.ownBlock]))).1.1)) (.int .i64 xi))
        have S8 := Aside0.mk (Kd.H_back (Kd.H_grown (Kd.H_far (p := ⟨bx, 0, none⟩) (Kd.H_drew (Kd.H_below HH.out D6.out)) (fun q hq => by have := HBX.out; have := hq.2; show q ≠ bx; omega) (.int .i64 y)) P8.out.2 (fun q e => by cases e; exact RO.out.1 g2 (by simp [Value.ownBlock]))) (x' := r.set k xi) (okp := oki) ⟨_, rfl, P8.out.1⟩ (fun _ h => h))
        have hii : i < rs.length := by omega
        have NX : Aside0 (insCols rows x = (rs.set i (r.set k xi)).take (i + 1) ++ insCols ((rs.set i (r.set k xi)).drop (i + 1)) y) := ⟨by
          rw [HI.out]
          simp only [insCols]
          rw [if_neg (by rw [KP.out]; omega), KP.out, Int.toNat_natCast, ← YY.out, setC_take_succ rs i _ hii, setC_drop_succ rs i _ hii, List.append_assoc]
          rfl⟩
        have NR : Aside0 (∀ q ∈ rs.set i (r.set k xi), q.length ≤ 1000) := ⟨fun q hq => by
          rcases List.mem_or_eq_of_mem_set hq with h | h
          · exact HR.out q h
          · rw [h]; simpa using hrl⟩
        clear HH HI HR HO RO R6 R7 X6 P8 HC HX HB HK
        have hcx5 : w6.cell? ⟨bx, 0, none⟩ = some (.int .i64 xi) := (blk_cell X5.out 0).trans rfl
        have hfx5 : w6.frozen? ⟨bx, 0, none⟩ = false := blk_frozen X5.out 0
        have hy5 : w6.cell? ⟨g2, k, none⟩ = some (.int .i64 y) := by rw [YY.out]; have := (Kd.R_celln 0 R5.out (k : Int) (by omega) (by omega)).1; rwa [Int.toNat_natCast] at this
        have hz5 : w6.frozen? ⟨g2, k, none⟩ = false := by have := (Kd.R_celln 0 R5.out (k : Int) (by omega) (by omega)).2; rwa [Int.toNat_natCast] at this
        have hne := K0.out
        have hne2 := Ne.symm K0.out
        have hll := HL.out
        go_region_with fail
        all_goals go_wp2
        all_goals go_roundg (rows.length - (i + 1))
        all_goals first
          | omega
          | exact ⟨i + 1, y, rs.set i (r.set k xi), by omega, by omega, by go_num, by simpa using hrs, NX, NR, ⟨by have := S8.out; rwa [Int.toNat_natCast] at this⟩, X8, B8, Q8⟩
    · have hie : i = rows.length := by omega
      have hltz : ¬ (i : Int) < (rows.length : Int) := by omega
      have hdn : rs.drop i = [] := List.drop_of_length_le (by omega)
      have htk : rs.take i = rs := List.take_of_length_le (by omega)
      have HI2 := HI.out
      rw [hdn, htk] at HI2
      have HI3 : Aside0 (insCols rows x = rs ++ [[xi]]) := ⟨HI2⟩
      have HE := Aside0.mk hie
      have HRS := Aside0.mk hrs
      clear HI2 HI hdn htk hie hrs
      have S6 := Aside0.mk (Kd.S_alloc (Kd.S_mono (ok' := fun k => (ok k ∨ w.heap.size ≤ k) ∧ ¬ k = wr.heap.size) HS.out (fun k hk => ⟨.inl hk.1, fun e => by have := HK.out.1; have := hk.2; omega⟩)) (.cells #[.int .i64 xi] 3 (0, 0)))
      have B6 := Aside0.mk (below_alloc HB.out (.cells #[.int .i64 xi] 3 (0, 0)))
      have AK : Aside0 (∀ k, k = wr.heap.size → (ok k ∨ w.heap.size ≤ k) ∧ some k ≠ (Value.slice A rows.length c).ownBlock) := ⟨fun k hk => ⟨.inr (by have := HK.out.1; omega), fun e => by have := ((Kd.S_R HS.out).1 k e.symm).2; have := HK.out.1; omega⟩⟩
      have AF : Aside0 (∀ k, (wr.alloc (.cells #[.int .i64 xi] 3 (0, 0))).heap.size ≤ k → ok k ∨ w.heap.size ≤ k) := ⟨fun k hk => .inr (Nat.le_trans HK.out.1 (Nat.le_trans (below_alloc (Below.refl _ wr) (.cells #[.int .i64 xi] 3 (0, 0))).size hk))⟩
      have AZ : Aside0 ((wr.alloc (.cells #[.int .i64 xi] 3 (0, 0))).heap.size = wr.heap.size + 1) := ⟨by show (wr.heap.push _).size = _; exact Array.size_push ..⟩
      go_wp2_with ((with_reducible refine gate_builtin (b := .append) (xs := #[.tmp 37, .tmp 40]) rfl ?_); at_builtin; refine Kd.S_append (Kd.slice 3 (Kd.int .i64)) (w0 := w0) (W := wr.alloc (.cells #[.int .i64 xi] 3 (0, 0))) w0.heap.size rfl (.tmp 37) (.tmp 40) 23 22 (.slice none 0 0) 24 rfl Try.underlying23 info22 rfl (by decide) (by omega) (.slice A rows.length c) rs [xi] [.slice (some ⟨wr.heap.size, 0, none⟩) 1 1] (fun k => ok k ∨ w.heap.size ≤ k) (fun k => k = wr.heap.size) rfl ?aX ?aM ?aK ?aF ?aO ?aB ?aS ?aL ?_; (case aX => first | rfl | (show Value.slice (some ⟨wr.heap.size + 1, 0, none⟩) 1 1 = _; rw [AZ.out]; done)); (case aM => exact ⟨_, rfl, R_oneC wr w0.heap.size 3 xi HB.out.size⟩); (case aK => exact AK.out); (case aF => exact AF.out); (case aO => exact S6.out); (case aB => exact B6.out); (case aS => exact B6.out.size); (case aL => have := HL.out; have := HRS.out; omega); intro v7 w7 ho hb7 hg7 hat; obtain ⟨Ao, co, eo⟩ := Kd.R_slice (Kd.S_R ho); subst eo; have S7 := Aside0.mk ho; have B7 := Aside0.mk hb7; have G7 := Aside0.mk hg7; clear ho hb7 hg7 hat)
      go_ret
      rw [HI3.out]
      exact ⟨.slice Ao (rs.length + 1) co, rfl, by simpa using S7.out, B7.out, Kept.of_grown G7.out (Kept.alloc HK.out (.cells #[.int .i64 xi] 3 (0, 0))) (fun k e => .inl ((Kd.S_R HS.out).1 k e).1)⟩
def impl_insertBelow.f (l0 : List (List Int)) (a1 : Int) : Option (List (List Int)) := some (insCols l0 a1)



end Go.Proofs.Ytljjjdgnpnnmoaa.F
