/- For each Go function named below: the plain Lean function that it computes, and that its call returns just that; conditions: those that each theorem names. -/
import Derived.Test.YthdoglkdcbghpaaDoorF0
import Derived.Test.YthdoglkdcbghpaaDoorF2
namespace Go.Proofs.YthdoglkdcbghpaaDoor.F
open Go.RowKit Go.Proofs.YthdoglkdcbghpaaDoorW.PrintWords Go.Proofs.YthdoglkdcbghpaaDoorW.PrintLast Go.Proofs.YthdoglkdcbghpaaDoorW.PrintMore
attribute [local go_sem] max2_int min2_int max_two min_two max_three min_three max_four min_four   -- for this text's walks alone
set_option linter.unusedVariables false
set_option linter.unusedSimpArgs false

/-! ### impl_Tableau_insert: function 71 -/
/-- where x is taken in a row: the index of the first number above it, or -1 -/
def bump (r : List Int) (x : Int) : Int := idxFrom (fun n => decide (x < n)) r 0
theorem idxFrom_range (p : Int → Bool) (l : List Int) : ∀ k : Nat, idxFrom p l k = -1 ∨ ((k : Int) ≤ idxFrom p l k ∧ idxFrom p l k < ((k + l.length : Nat) : Int)) := by
  induction l with
  | nil => intro k; exact .inl rfl
  | cons x l ih =>
    intro k
    simp only [idxFrom, List.length_cons]
    by_cases h : p x = true
    · rw [if_pos h]; exact .inr ⟨by omega, by omega⟩
    · rw [if_neg h]
      rcases ih (k + 1) with h1 | h1
      · exact .inl h1
      · exact .inr ⟨by omega, by omega⟩
theorem bump_range (r : List Int) (x : Int) : bump r x = -1 ∨ (0 ≤ bump r x ∧ bump r x < (r.length : Int)) := by
  have := idxFrom_range (fun n => decide (x < n)) r 0
  unfold bump; simpa using this
/-- the rows with x inserted -/
def insRows : List (List Int) → Int → List (List Int)
  | [], x => [[x]]
  | r :: l, x => if bump r x < 0 then (r ++ [x]) :: l else r.set (bump r x).toNat x :: insRows l (rd r (bump r x))
/-- the row that has one cell more -/
def insAt : List (List Int) → Int → Nat
  | [], _ => 0
  | r :: l, x => if bump r x < 0 then 0 else insAt l (rd r (bump r x)) + 1
theorem insert_lit (n x : Int) (bx : Nat) (w : World) (hx : w.heap[bx]? = some (.cells #[.int .i64 x] 3 (0, 0))) : Calls Tryd.prog 75 #[.int .i64 n, .pointer (some ⟨bx, 0, none⟩)] w fun e w' => e = .returned (.bool (decide (x < n))) ∧ w = w' := by
  have h1 : w.cell? ⟨bx, 0, none⟩ = some (.int .i64 x) := (blk_cell hx 0).trans rfl
  go_enter Tryd.func75, Tryd.ntmps75
  go_wp2
  go_ret
  exact ⟨by simp, rfl⟩
/-- a row of one number, just made -/
theorem R_one (W : World) (base t : Nat) (x : Int) (hb : base ≤ W.heap.size) : (Kd.int .i64).R t (W.alloc (.cells #[.int .i64 x] t (0, 0))) base (fun k => k = W.heap.size) (.slice (some ⟨W.heap.size, 0, none⟩) 1 1) [x] := by
  refine ⟨fun k hk => ?_, [.int .i64 x], ?_, ?_⟩
  · have : W.heap.size = k := by simpa [Value.ownBlock] using hk
    exact this.symm
  · have h2 := World.ownsRow_lit (base := base) (e := t) (size := 1) W #[.int .i64 x] 1 hb (by simp [maxLen]) rfl
    show (W.alloc (.cells #[.int .i64 x] t (0, 0))).ownsRow base t 1 (.slice (some ⟨W.heap.size, 0, none⟩) 1 1) 1 [.int .i64 x]
    simpa using h2
  · refine ⟨rfl, fun i p hp => ?_⟩
    cases i with
    | zero =>
      obtain rfl : x = p := by simpa using hp
      rfl
    | succ i => simp at hp
theorem set_take_succ {α : Type} (l : List α) (i : Nat) (q : α) (h : i < l.length) : (l.set i q).take (i + 1) = l.take i ++ [q] := by
  have e : (l.take i).length = i := by rw [List.length_take]; omega
  rw [List.set_eq_take_append_cons_drop, if_pos h, List.take_append, List.take_of_length_le (by omega), e, show i + 1 - i = 1 by omega]
  rfl
theorem set_drop_succ {α : Type} (l : List α) (i : Nat) (q : α) (h : i < l.length) : (l.set i q).drop (i + 1) = l.drop (i + 1) := by
  have e : (l.take i).length = i := by rw [List.length_take]; omega
  rw [List.set_eq_take_append_cons_drop, if_pos h, List.drop_append, List.drop_of_length_le (by omega), e, show i + 1 - i = 1 by omega]
  rfl
set_option maxHeartbeats 8000000 in
set_option maxRecDepth 100000 in
theorem insert_calls (w0 w : World) (b : Nat) (iv rv : Value) (rows : List (List Int)) (x : Int) (ok : Nat → Prop) (hB : Below w0.heap.size w0 w) (hT : w.heap[b]? = some (.cells #[iv, rv] 53 (0, 0))) (hb : w0.heap.size ≤ b)
    (hS : Kd.S (Kd.slice 3 (Kd.int .i64)) 22 w w0.heap.size ok rv rows) (hl : rows.length ≤ 1000) (hr : ∀ r ∈ rows, r.length ≤ 1000) :
    Calls Tryd.prog 71 #[.pointer (some ⟨b, 0, none⟩), .int .i64 x] w fun e w' => e = .returned (.int .i64 (insAt rows x : Nat)) ∧
      (∃ rv', w'.heap[b]? = some (.cells #[iv, rv'] 53 (0, 0)) ∧ Kd.S (Kd.slice 3 (Kd.int .i64)) 22 w' w0.heap.size (fun k => ok k ∨ w.heap.size ≤ k) rv' (insRows rows x)) ∧ Below w0.heap.size w0 w' ∧ Kept w w' (fun k => ok k ∨ k = b) := by
  have hbs := blk_lt hT
  have hw0 := hB.size
  obtain ⟨A, c, hu⟩ := Kd.R_slice (Kd.S_R hS)
  subst hu
  have HT := Aside0.mk hT
  have HS := Aside0.mk (Kd.S_mono (Kd.S_bound hS) (ok' := fun k => ok k ∧ k < w.heap.size) (fun k hk => ⟨hk.1, hk.2.2.1⟩))
  have HB := Aside0.mk hB
  have HR := Aside0.mk hr
  have HL := Aside0.mk hl
  clear hT hS hB hr hl
  go_enter Tryd.func71, Tryd.ntmps71
  go_wp2_with ((with_reducible refine gate_dst (N := 3) rfl ?_); refine zX (N := 3) (cs := #[.int .i64 x]) (t := 3) ?_; intro bx hbx w1 hbox hbel; have T1 := Aside0.mk (blk_below HT.out hbel); have S1 := Aside0.mk (Kd.S_below HS.out hbel); have B1 := Aside0.mk (below_then HB.out hw0 hbel); have K1 := Aside0.mk (Kept.of_below hbel (fun k => ok k ∨ k = b)); have X1 := Aside0.mk hbox; have hc1 : w1.cell? ⟨b, 1, none⟩ = some (.slice A rows.length c) := (blk_cell T1.out 1).trans rfl; have HBB := Aside0.mk (show b ≠ bx by omega); have HBX := Aside0.mk hbx; clear hbox hbel HT HS HB hbx)
  clear hc1
  go_loopg [13] rows.length (fun kq v13 wr => ∃ (i : Nat) (xi : Int) (rs : List (List Int)), i ≤ rows.length ∧ rows.length - i ≤ kq ∧ v13 = .int .i64 i ∧ rs.length = rows.length ∧ Aside0 (insRows rows x = rs.take i ++ insRows (rs.drop i) xi) ∧ Aside0 (insAt rows x = i + insAt (rs.drop i) xi) ∧ Aside0 (∀ r ∈ rs, r.length ≤ 1000) ∧
    Aside0 (Kd.S (Kd.slice 3 (Kd.int .i64)) 22 wr w0.heap.size (fun k => ok k ∧ k < w.heap.size) (.slice A rows.length c) rs) ∧ Aside0 (wr.heap[b]? = some (.cells #[iv, .slice A rows.length c] 53 (0, 0))) ∧ Aside0 (wr.heap[bx]? = some (.cells #[.int .i64 xi] 3 (0, 0))) ∧ Aside0 (Below w0.heap.size w0 wr) ∧ Aside0 (Kept w wr (fun k => ok k ∨ k = b)))
  case atStart => exact ⟨0, x, rows, Nat.zero_le _, by omega, rfl, rfl, ⟨rfl⟩, ⟨by simp⟩, HR, S1, T1, X1, B1, K1⟩
  case round =>
    clear T1 S1 B1 K1 X1 HR
    obtain ⟨i, xi, rs, hi, hg, rfl, hrs, HI, HA, HR, HS, HT, HX, HB, HK⟩ := hrel
    have hcr : wr.cell? ⟨b, 1, none⟩ = some (.slice A rows.length c) := (blk_cell HT.out 1).trans rfl
    have hcx : wr.cell? ⟨bx, 0, none⟩ = some (.int .i64 xi) := (blk_cell HX.out 0).trans rfl
    by_cases hlt : i < rows.length
    · have hltz : (i : Int) < (rows.length : Int) := by omega
      obtain ⟨g, cc, e0⟩ : ∃ g cc, (Value.slice A rows.length c) = .slice (some ⟨g, 0, none⟩) rows.length cc := by
        obtain ⟨g, cc, e0, _⟩ := Kd.R_form (Kd.S_R HS.out) (by omega)
        injection e0 with ea el ec
        exact ⟨g, c, by rw [ea]⟩
      injection e0 with ea _ ec
      subst ea ec
      have GO : Aside0 (ok g ∧ w0.heap.size ≤ g) := ⟨((Kd.S_R HS.out).1 g (by simp [Value.ownBlock])).1, Kd.R_base (Kd.S_R HS.out) g (by simp [Value.ownBlock])⟩
      have GT : Aside0 (g ≠ b) := ⟨by
        obtain ⟨g', cc, e0, _, _, cells, hce⟩ := Kd.R_form (Kd.S_R HS.out) (by omega)
        injection e0 with ea _ _
        injection ea with ea
        injection ea with ea _ _
        rw [← ea] at hce
        exact blk_ne hce HT.out (by decide)⟩
      have GX : Aside0 (g ≠ bx) := ⟨by
        obtain ⟨g', cc, e0, _, _, cells, hce⟩ := Kd.R_form (Kd.S_R HS.out) (by omega)
        injection e0 with ea _ _
        injection ea with ea
        injection ea with ea _ _
        rw [← ea] at hce
        exact blk_ne hce HX.out (by decide)⟩
      obtain ⟨oki, cs, hcl, hM, hcc, hfr, hoki, hH⟩ := Kd.S_elem HS.out [] (i : Int) (by omega) (by omega)
      rw [Int.toNat_natCast] at hM
      obtain ⟨v, rfl, hR⟩ := hM
      obtain ⟨A1, c1, e1⟩ := Kd.R_slice hR
      subst e1
      have hx1 := hcc 0 _ rfl
      rw [show (i : Int).toNat * (Kd.slice 3 (Kd.int .i64)).sz + 0 = i from by show (i : Int).toNat * 1 + 0 = i; omega] at hx1
      have hf1 := hfr 0
      rw [show (i : Int).toNat * (Kd.slice 3 (Kd.int .i64)).sz + 0 = i from by show (i : Int).toNat * 1 + 0 = i; omega] at hf1
      have hd : rs.drop i = rs.getD i [] :: rs.drop (i + 1) := by
        rw [List.drop_eq_getElem_cons (by omega), List.getD_eq_getElem?_getD, List.getElem?_eq_getElem (by omega)]; rfl
      have hrl : (rs.getD i []).length ≤ 1000 := HR.out _ (by rw [List.getD_eq_getElem?_getD, List.getElem?_eq_getElem (by omega)]; exact List.getElem_mem _)
      have HI2 := HI.out
      have HA2 := HA.out
      rw [hd] at HI2 HA2
      have RO := Aside0.mk hR
      have HO := Aside0.mk hoki
      have HH := Aside0.mk hH
      have HC := Aside0.mk (indexFunc_pred 75 #[.pointer (some ⟨bx, 0, none⟩)] (fun n => decide (xi < n)) (enters_of Tryd.func75 (by kernel_rfl) rfl) A1 c1 (rs.getD i []) wr (fun W n hd => (insert_lit n xi bx W (by obtain ⟨m, rfl⟩ := hd.out; exact HX.out)).mono fun e w' h => ⟨h.1, h.2 ▸ Drawn0.refl _⟩) (Kd.R_reads' hR).2.2)
      clear HI HA hd hR hoki hH hcc hfr hcl HS
      rw [show idxFrom (fun n => decide (xi < n)) (rs.getD i []) 0 = bump (rs.getD i []) xi from rfl] at HC
      have hci : wr.cell? ⟨g, i, none⟩ = some (.slice A1 (rs.getD i []).length c1) := hx1
      obtain ⟨r, hrr⟩ : ∃ r, r = rs.getD i [] := ⟨_, rfl⟩
      rw [← hrr] at hx1 hci RO HC HH HI2 HA2 hrl
      have RR := Aside0.mk hrr
      have HI := Aside0.mk HI2
      have HA := Aside0.mk HA2
      clear hrr HI2 HA2 hci
      rcases bump_range r xi with hbu | ⟨hb0, hb1⟩
      · have HBU := Aside0.mk hbu
        rw [hbu] at HC
        clear hbu
        go_wp2_with (go_at_call 48; refine HC.out.mono ?_; rintro e w6 ⟨rfl, ⟨m6, rfl⟩⟩; have T6 := Aside0.mk (blk_drewN HT.out m6); have X6 := Aside0.mk (blk_drewN HX.out m6); have hcr6 : (wr.drewN m6).cell? ⟨b, 1, none⟩ = some (.slice (some ⟨g, 0, none⟩) rows.length c) := (blk_cell T6.out 1).trans rfl; have hcx6 : (wr.drewN m6).cell? ⟨bx, 0, none⟩ = some (.int .i64 xi) := (blk_cell X6.out 0).trans rfl; clear hcr hcx hx1)
        go_region_held3 (fun W => W.cell? ⟨b, 1, none⟩ = some (.slice (some ⟨g, 0, none⟩) rows.length c) ∧ W.cell? ⟨bx, 0, none⟩ = some (.int .i64 xi)) (first | exact ⟨(blk_cell (blk_drew T6.out) 1).trans rfl, (blk_cell (blk_drew X6.out) 0).trans rfl⟩ | exact ⟨(blk_cell (blk_alloc (blk_drew T6.out) _) 1).trans rfl, (blk_cell (blk_alloc (blk_drew X6.out) _) 0).trans rfl⟩ | exact ⟨(blk_cell T7.out 1).trans rfl, (blk_cell X7.out 0).trans rfl⟩ | exact ⟨(blk_cell (blk_far T7.out (Ne.symm GT.out) _) 1).trans rfl, (blk_cell (blk_far X7.out (Ne.symm GX.out) _) 0).trans rfl⟩)
          (first
            | (refine Kd.R_append_step (Kd.int .i64) (w0 := w0) w0.heap.size (by rfl) (.tmp 28) (.tmp 30) 22 3 (.int .i64 0) 8 rfl Tryd.underlying22 info3 rfl (by decide) (by omega) (.slice A1 r.length c1) r xi [.int .i64 xi] (fun k => oki k ∨ (ok k ∨ w.heap.size ≤ k) ∧ wr.heap.size ≤ k) (fun _ => False) rfl rfl ?aP (fun _ hk => hk.elim) ?aF ?aO ?aB ?aS ?aL ?_; (case aP => exact rfl); (case aF => exact fun k hk => .inr ⟨.inr (Nat.le_trans HK.out.1 hk), hk⟩); (case aO => exact Kd.R_drew (Kd.R_drewN (Kd.R_mono RO.out (fun _ hk => .inl hk)) m6)); (case aB => exact below_drew (pw_below_drewN HB.out m6)); (case aS => exact HB.out.size); (case aL => omega); intro v7 w7 ho hb hg hat; obtain ⟨Ao, co, eo⟩ := Kd.R_slice ho; subst eo; have R7 := Aside0.mk ho; have B7 := Aside0.mk hb; have G7 := Aside0.mk hg; have T7 := Aside0.mk (blk_grown (blk_drew T6.out) hg (Kd.R_ne (Kd.R_drew (Kd.R_drewN RO.out m6)) (blk_drew T6.out) (by decide))); have X7 := Aside0.mk (blk_grown (blk_drew X6.out) hg (fun e => by have := HO.out bx (RO.out.1 bx e.symm); have := HBX.out; omega)); have H7 := Aside0.mk (Kd.H_grown (Kd.H_widen (Kd.H_mono (Kd.H_drew (Kd.H_drewN HH.out m6)) (fun k hk => (.inl hk.1 : ok k ∨ w.heap.size ≤ k)))) hg (fun k e => .inl (RO.out.1 k e))); obtain ⟨hc7, hf7⟩ := Kd.H_at H7.out (show (0 : Int) ≤ (i : Int) by omega) (show (i : Int) < (rows.length : Int) by omega); have hx7 := hc7 0 _ rfl; have hy7 := hf7 0; rw [show (i : Int).toNat * (Kd.slice 3 (Kd.int .i64)).sz + 0 = i from by show (i : Int).toNat * 1 + 0 = i; omega] at hx7 hy7; clear ho hb hg hat hc7 hf7))
        go_wp2
        go_ret
        have hii : i < rs.length := by omega
        have eI : insRows rows x = rs.set i (r ++ [xi]) := by
          rw [HI.out]
          simp only [insRows]
          rw [if_pos (by rw [HBU.out]; decide), List.set_eq_take_append_cons_drop, if_pos hii]
        have eA : insAt rows x = i := by
          rw [HA.out]
          simp only [insAt]
          rw [if_pos (by rw [HBU.out]; decide)]; rfl
        have S8 := (Kd.S_seg0 H7.out (show (0 : Int) ≤ (i : Int) by omega) (show (i : Int) < (rows.length : Int) by omega) (seg := [.slice Ao (r ++ [xi]).length co]) (j := 0) (show 1 ≤ 1 from by decide) (x' := r ++ [xi]) (Kd.M_row R7.out) (fun _ hk => hk)).1
        rw [show (i : Int).toNat * (Kd.slice 3 (Kd.int .i64)).sz + 0 = i from by show (i : Int).toNat * 1 + 0 = i; omega, Int.toNat_natCast, show (r ++ [xi]).length = r.length + 1 by simp] at S8
        rw [eI, eA]
        exact ⟨by simp, ⟨_, blk_far T7.out (Ne.symm GT.out) _, S8⟩, below_set B7.out GO.out.2, ((Kept.of_grown G7.out (Kept.drew (Kept.drewN HK.out m6)) (fun k e => .inl (.inl (HO.out k (RO.out.1 k e)).1.1))).setCell (.inl (.inl GO.out.1)) _)⟩
      · obtain ⟨k, hk⟩ : ∃ k : Nat, bump r xi = (k : Int) := ⟨(bump r xi).toNat, by omega⟩
        rw [hk] at hb1 HC
        have hkl : k < r.length := by omega
        obtain ⟨g2, c2, e2, gb2, gl2, cl2, ht2⟩ := Kd.R_form RO.out (by omega)
        injection e2 with ea el ec
        subst ea
        have GB2 := Aside0.mk gb2
        have KP := Aside0.mk hk
        have K0 := Aside0.mk (show g2 ≠ bx by have := HO.out g2 (RO.out.1 g2 (by simp [Value.ownBlock])); have := HBX.out; omega)
        have K1 := Aside0.mk (show g2 ≠ b from blk_ne ht2 HT.out (by decide))
        clear gb2 gl2 ht2 hk hb0 el ec
        go_wp2_with (go_at_call 48; refine HC.out.mono ?_; rintro e w6 ⟨rfl, hd6⟩; have D6 := Aside0.mk hd6.below; clear hd6 hcr hcx hx1)
        have X6 := Aside0.mk (blk_drew (blk_below HX.out D6.out))
        have X5 := Aside0.mk (blk_below HX.out D6.out)
        have R5 := Aside0.mk (Kd.R_below RO.out D6.out)
        have T6 := Aside0.mk (blk_drew (blk_below HT.out D6.out))
        have R6 := Aside0.mk (Kd.R_drew (Kd.R_below RO.out D6.out))
        have hcx6 : w6.drew.cell? ⟨bx, 0, none⟩ = some (.int .i64 xi) := (blk_cell X6.out 0).trans rfl
        have hfx6 : w6.drew.frozen? ⟨bx, 0, none⟩ = false := blk_frozen X6.out 0
        obtain ⟨hy6, hz6⟩ := Kd.R_celln 0 R6.out (k : Int) (by omega) (by omega)
        rw [Int.toNat_natCast] at hy6 hz6
        obtain ⟨y, hyy⟩ : ∃ y, y = rd r (k : Int) := ⟨_, rfl⟩
        replace hy6 : w6.drew.cell? ⟨g2, k, none⟩ = some (.int .i64 y) := by rw [hyy]; exact hy6
        have YY := Aside0.mk hyy
        clear hyy
        have R7 := Aside0.mk (Kd.R_far (p := ⟨bx, 0, none⟩) R6.out (fun q hq => by have := HO.out q hq; have := HBX.out; show q ≠ bx; omega) (.int .i64 y))
        have hP8 := Kd.R_putg R7.out (k : Int) xi
        rw [Int.toNat_natCast] at hP8
        have P8 := Aside0.mk hP8
        clear hP8
        have T8 := Aside0.mk (blk_far (p := ⟨g2, k, none⟩) (blk_far (p := ⟨bx, 0, none⟩) T6.out HBB.out (.int .i64 y)) (Ne.symm K1.out) (.int .i64 xi))
        have X8 := Aside0.mk (blk_far (p := ⟨g2, k, none⟩) (blk_put (cs' := #[.int .i64 y]) X6.out 0 (.int .i64 y) rfl) (Ne.symm K0.out) (.int .i64 xi))
        have B8 := Aside0.mk (below_set (j := k) (v := .int .i64 xi) (below_set (j := 0) (v := .int .i64 y) (below_drew (below_then HB.out (Nat.le_trans hw0 HK.out.1) D6.out)) (show w0.heap.size ≤ bx by have := HBX.out; omega)) GB2.out)
        have Q8 := Aside0.mk (((HK.out.below D6.out).drew.setCell (p := ⟨bx, 0, none⟩) (.inr (by have := HBX.out; show w.heap.size ≤ bx; omega)) (.int .i64 y)).setCell (p := ⟨g2, k, none⟩) (.inl (.inl (HO.out g2 (RO.out.1 g2 (by simp [Value.ownBlock]))).1.1)) (.int .i64 xi))
        have S8 := Aside0.mk (Kd.H_back (Kd.H_grown (Kd.H_far (p := ⟨bx, 0, none⟩) (Kd.H_drew (Kd.H_below HH.out D6.out)) (fun q hq => by have := HBX.out; have := hq.2; show q ≠ bx; omega) (.int .i64 y)) P8.out.2 (fun q e => by cases e; exact RO.out.1 g2 (by simp [Value.ownBlock]))) (x' := r.set k xi) (okp := oki) ⟨_, rfl, P8.out.1⟩ (fun _ h => h))
        have hii : i < rs.length := by omega
        have NX : Aside0 (insRows rows x = (rs.set i (r.set k xi)).take (i + 1) ++ insRows ((rs.set i (r.set k xi)).drop (i + 1)) y) := ⟨by
          rw [HI.out]
          simp only [insRows]
          rw [if_neg (by rw [KP.out]; omega), KP.out, Int.toNat_natCast, ← YY.out, set_take_succ rs i _ hii, set_drop_succ rs i _ hii, List.append_assoc]
          rfl⟩
        have NA : Aside0 (insAt rows x = i + 1 + insAt ((rs.set i (r.set k xi)).drop (i + 1)) y) := ⟨by
          rw [HA.out]
          simp only [insAt]
          rw [if_neg (by rw [KP.out]; omega), KP.out, ← YY.out, set_drop_succ rs i _ hii]
          omega⟩
        have NR : Aside0 (∀ q ∈ rs.set i (r.set k xi), q.length ≤ 1000) := ⟨fun q hq => by
          rcases List.mem_or_eq_of_mem_set hq with h | h
          · exact HR.out q h
          · rw [h]; simpa using hrl⟩
        clear HH HI HA HR HO RO R6 R7 T6 X6 P8 HC HT HX HB HK
        have hcx5 : w6.cell? ⟨bx, 0, none⟩ = some (.int .i64 xi) := (blk_cell X5.out 0).trans rfl
        have hfx5 : w6.frozen? ⟨bx, 0, none⟩ = false := blk_frozen X5.out 0
        have hy5 : w6.cell? ⟨g2, k, none⟩ = some (.int .i64 y) := by rw [YY.out]; have := (Kd.R_celln 0 R5.out (k : Int) (by omega) (by omega)).1; rwa [Int.toNat_natCast] at this
        have hz5 : w6.frozen? ⟨g2, k, none⟩ = false := by have := (Kd.R_celln 0 R5.out (k : Int) (by omega) (by omega)).2; rwa [Int.toNat_natCast] at this
        have hne := K0.out
        have hne2 := Ne.symm K0.out
        have hll := HL.out
        go_region_with fail
        all_goals go_wp2
        all_goals go_roundg (rows.length - (i + 1))
        all_goals first
          | omega
          | exact ⟨i + 1, y, rs.set i (r.set k xi), by omega, by omega, by go_num, by simpa using hrs, NX, NA, NR, ⟨by have := S8.out; rwa [Int.toNat_natCast] at this⟩, T8, X8, B8, Q8⟩
    · have hie : i = rows.length := by omega
      have hltz : ¬ (i : Int) < (rows.length : Int) := by omega
      have hdn : rs.drop i = [] := List.drop_of_length_le (by omega)
      have htk : rs.take i = rs := List.take_of_length_le (by omega)
      have HI2 := HI.out
      have HA2 := HA.out
      rw [hdn, htk] at HI2
      rw [hdn] at HA2
      have HI3 : Aside0 (insRows rows x = rs ++ [[xi]]) := ⟨HI2⟩
      have HA3 : Aside0 (insAt rows x = i) := ⟨HA2⟩
      have HE := Aside0.mk hie
      have HRS := Aside0.mk hrs
      clear HI2 HA2 HI HA hdn htk hie hrs
      go_wp2
      have X5 := Aside0.mk (blk_drew HX.out)
      have T5 := Aside0.mk (blk_drew HT.out)
      have T6 := Aside0.mk (blk_alloc T5.out (.cells #[.int .i64 xi] 3 (0, 0)))
      have X6 := Aside0.mk (blk_alloc X5.out (.cells #[.int .i64 xi] 3 (0, 0)))
      have S6 := Aside0.mk (Kd.S_alloc (Kd.S_drew (Kd.S_mono (ok' := fun k => (ok k ∨ w.heap.size ≤ k) ∧ ¬ k = wr.heap.size) HS.out (fun k hk => ⟨.inl hk.1, fun e => by have := HK.out.1; have := hk.2; omega⟩))) (.cells #[.int .i64 xi] 3 (0, 0)))
      have B6 := Aside0.mk (below_alloc (below_drew HB.out) (.cells #[.int .i64 xi] 3 (0, 0)))
      have NB := Aside0.mk (Kd.R_ne (Kd.S_R S6.out) T6.out (by decide))
      have NX : Aside0 (some bx ≠ (Value.slice A rows.length c).ownBlock) := ⟨fun e => by have := ((Kd.S_R HS.out).1 bx e.symm).2; have := HBX.out; omega⟩
      have AK : Aside0 (∀ k, k = wr.heap.size → (ok k ∨ w.heap.size ≤ k) ∧ some k ≠ (Value.slice A rows.length c).ownBlock) := ⟨fun k hk => ⟨.inr (by have := HK.out.1; omega), fun e => by have := ((Kd.S_R HS.out).1 k e.symm).2; have := HK.out.1; omega⟩⟩
      have AF : Aside0 (∀ k, (wr.drew.alloc (.cells #[.int .i64 xi] 3 (0, 0))).heap.size ≤ k → ok k ∨ w.heap.size ≤ k) := ⟨fun k hk => .inr (Nat.le_trans HK.out.1 (Nat.le_trans (below_alloc (Below.refl _ wr) (.cells #[.int .i64 xi] 3 (0, 0))).size hk))⟩
      have AZ : Aside0 ((wr.drew.alloc (.cells #[.int .i64 xi] 3 (0, 0))).heap.size = wr.heap.size + 1) := ⟨by show (wr.heap.push _).size = _; exact Array.size_push ..⟩
      have hcr5 : wr.drew.cell? ⟨b, 1, none⟩ = some (.slice A rows.length c) := (blk_cell T5.out 1).trans rfl
      have hcx5 : wr.drew.cell? ⟨bx, 0, none⟩ = some (.int .i64 xi) := (blk_cell X5.out 0).trans rfl
      have hbw := blk_lt HT.out
      have hxw := blk_lt HX.out
      go_region_law (first
          | (refine Kd.S_append_step (Kd.slice 3 (Kd.int .i64)) (w0 := w0) (W := wr.drew.alloc (.cells #[.int .i64 xi] 3 (0, 0))) w0.heap.size (by rfl) (.tmp 47) (.tmp 50) 23 22 (.slice none 0 0) 24 rfl Tryd.underlying23 info22 rfl (by decide) (by omega) (.slice A rows.length c) rs [xi] [.slice (some ⟨wr.heap.size, 0, none⟩) 1 1] (fun k => ok k ∨ w.heap.size ≤ k) (fun k => k = wr.heap.size) rfl ?aX ?aM ?aK ?aF ?aO ?aB ?aS ?aL ?_; (case aX => first | rfl | (show Value.slice (some ⟨wr.heap.size + 1, 0, none⟩) 1 1 = _; rw [AZ.out]; done) | exact (0 : Nat)); (case aM => exact ⟨_, rfl, R_one wr.drew w0.heap.size 3 xi HB.out.size⟩); (case aK => exact AK.out); (case aF => exact AF.out); (case aO => exact S6.out); (case aB => exact B6.out); (case aS => exact B6.out.size); (case aL => have := HL.out; have := HRS.out; omega); intro v7 w7 ho hb7 hg7 hat; obtain ⟨Ao, co, eo⟩ := Kd.R_slice (Kd.S_R ho); subst eo; have S7 := Aside0.mk ho; have B7 := Aside0.mk hb7; have G7 := Aside0.mk hg7; have T7 := Aside0.mk (blk_grown T6.out hg7 NB.out);  have hc7 : w7.cell? ⟨b, 1, none⟩ = some (.slice A rows.length c) := (blk_cell T7.out 1).trans rfl; have hf7 : w7.frozen? ⟨b, 1, none⟩ = false := blk_frozen T7.out 1; clear ho hb7 hg7 hat))
      all_goals have T8 := blk_put (cs' := #[iv, .slice Ao (rs.length + 1) co]) T7.out 1 (.slice Ao (rs.length + 1) co) rfl
      all_goals have B8 := below_set (j := 1) (v := .slice Ao (rs.length + 1) co) B7.out hb
      all_goals have S8 := Kd.S_mono (Kd.S_far (p := ⟨b, 1, none⟩) (Kd.S_types S7.out T7.out (by decide)) (fun k hk => hk.2) (.slice Ao (rs.length + 1) co)) (ok' := fun k => ok k ∨ w.heap.size ≤ k) (fun k hk => hk.1)
      all_goals have Q8 := (Kept.of_grown G7.out (Kept.alloc (Kept.drew HK.out) (.cells #[.int .i64 xi] 3 (0, 0))) (fun k e => .inl (.inl ((Kd.S_R HS.out).1 k e).1))).setCell (p := ⟨b, 1, none⟩) (.inl (.inr rfl)) (.slice Ao (rs.length + 1) co)
      all_goals go_wp2
      all_goals go_ret
      all_goals rw [HA3.out, HI3.out]
      all_goals refine ⟨?_, ⟨_, T8, by simpa using S8⟩, B8, by simpa using Q8⟩
      all_goals have := HE.out
      all_goals have := HRS.out
      all_goals have := HL.out
      all_goals have hir : i = rs.length := by omega
      all_goals have hwr : wrap64 (rs.length : Int) = (i : Int) := by unfold wrap64; omega
      all_goals exact congrArg (fun n => Ending.returned (Value.int .i64 n)) hwr
/-- what the second tableau holds, once a number is put at the end of a row -/
def recQ (q : List (List Int)) (r : Nat) (n : Int) : List (List Int) := (if r = q.length then q ++ [[]] else q).set r ((if r = q.length then q ++ [[]] else q).getD r [] ++ [n])
/-- the two tableaux of the first i numbers of a word -/
def bothAt (w : List Int) (ns : Nat → Int) : Nat → List (List Int) × List (List Int)
  | 0 => ([], [])
  | i + 1 => (insRows (bothAt w ns i).1 (rd w (i : Int)), recQ (bothAt w ns i).2 (insAt (bothAt w ns i).1 (rd w (i : Int))) (ns i))
theorem insAt_le : ∀ (p : List (List Int)) (x : Int), insAt p x ≤ p.length
  | [], _ => Nat.le_refl _
  | r :: l, x => by
    simp only [insAt, List.length_cons]
    split
    · omega
    · have := insAt_le l (rd r (bump r x)); omega
theorem insRows_length : ∀ (p : List (List Int)) (x : Int), (insAt p x = p.length ∧ (insRows p x).length = p.length + 1) ∨ (insAt p x < p.length ∧ (insRows p x).length = p.length)
  | [], _ => .inl ⟨rfl, by simp [insRows]⟩
  | r :: l, x => by
    simp only [insRows, insAt, List.length_cons]
    by_cases h : bump r x < 0
    · simp only [if_pos h, List.length_cons]; exact .inr ⟨by omega, by first | rfl | trivial⟩
    · simp only [if_neg h, List.length_cons]
      rcases insRows_length l (rd r (bump r x)) with h2 | h2
      · exact .inl ⟨by omega, by omega⟩
      · exact .inr ⟨by omega, by omega⟩
theorem insRows_bound (m : Nat) : ∀ (p : List (List Int)) (x : Int), (∀ r ∈ p, r.length ≤ m) → ∀ r ∈ insRows p x, r.length ≤ m + 1
  | [], x => fun _ r hr => by
    obtain rfl : r = [x] := by simpa [insRows] using hr
    simp
  | r :: l, x => fun h q hq => by
    simp only [insRows] at hq
    have h1 := h r (List.mem_cons_self ..)
    have h2 := fun s hs => h s (List.mem_cons_of_mem _ hs)
    split at hq
    · rcases List.mem_cons.1 hq with rfl | hq
      · simp; omega
      · have := h2 q hq; omega
    · rcases List.mem_cons.1 hq with rfl | hq
      · simp; omega
      · exact insRows_bound m l _ h2 q hq
theorem recQ_length (q : List (List Int)) (r : Nat) (n : Int) : (recQ q r n).length = if r = q.length then q.length + 1 else q.length := by
  unfold recQ; rw [List.length_set]; split <;> simp
theorem recQ_bound (m : Nat) (q : List (List Int)) (r : Nat) (n : Int) (h : ∀ s ∈ q, s.length ≤ m) : ∀ s ∈ recQ q r n, s.length ≤ m + 1 := by
  intro s hs
  have h0 : ∀ s ∈ (if r = q.length then q ++ [[]] else q), s.length ≤ m := by
    intro s hs
    split at hs
    · rcases List.mem_append.1 hs with hs | hs
      · exact h s hs
      · obtain rfl : s = [] := by simpa using hs
        simp
    · exact h s hs
  unfold recQ at hs
  rcases List.mem_or_eq_of_mem_set hs with hs | rfl
  · have := h0 s hs; omega
  · rw [List.length_append]
    rcases Nat.lt_or_ge r (if r = q.length then q ++ [[]] else q).length with hr | hr
    · rw [List.getD_eq_getElem?_getD, List.getElem?_eq_getElem hr]
      have := h0 _ (List.getElem_mem hr)
      simp only [Option.getD_some, List.length_cons, List.length_nil]; omega
    · rw [List.getD_eq_getElem?_getD, List.getElem?_eq_none hr]
      simp
theorem both_inv (w : List Int) (ns : Nat → Int) : ∀ i, (bothAt w ns i).1.length = (bothAt w ns i).2.length ∧ (bothAt w ns i).1.length ≤ i ∧ (∀ r ∈ (bothAt w ns i).1, r.length ≤ i) ∧ (∀ r ∈ (bothAt w ns i).2, r.length ≤ i)
  | 0 => ⟨rfl, Nat.le_refl _, fun r hr => by simp [bothAt] at hr, fun r hr => by simp [bothAt] at hr⟩
  | i + 1 => by
    obtain ⟨h1, h2, h3, h4⟩ := both_inv w ns i
    refine ⟨?_, ?_, insRows_bound i _ _ h3, recQ_bound i _ _ _ h4⟩
    · show (insRows _ _).length = (recQ _ _ _).length
      rw [recQ_length, ← h1]
      rcases insRows_length (bothAt w ns i).1 (rd w (i : Int)) with h | h
      · rw [if_pos h.1, h.2]
      · rw [if_neg (by omega), h.2]
    · show (insRows _ _).length ≤ i + 1
      rcases insRows_length (bothAt w ns i).1 (rd w (i : Int)) with h | h <;> omega
/-- a made row of rows, carried over what leaves its blocks alone -/
theorem S_carry {w W W' : World} {P : Nat → Prop} {v : Value} {xs : List (List Int)} (hS : Kd.S (Kd.slice 3 (Kd.int .i64)) 22 W w.heap.size P v xs) {Z : Nat → Prop} (hK : Kept W W' Z) (hz : ∀ k, P k → ¬ Z k) : Kd.S (Kd.slice 3 (Kd.int .i64)) 22 W' w.heap.size P v xs :=
  Kd.S_step hS (fun k hk hlt => hK.2 k hlt (hz k hk))
theorem R_carry {w W W' : World} {P : Nat → Prop} {v : Value} {xs : List Int} (hS : Kd.R (Kd.int .i64) 3 W w.heap.size P v xs) {Z : Nat → Prop} (hK : Kept W W' Z) (hz : ∀ k, P k → ¬ Z k) : Kd.R (Kd.int .i64) 3 W' w.heap.size P v xs :=
  Kd.R_step hS (fun k hk hlt => hK.2 k hlt (hz k hk))
theorem blk_made (w : World) (o : Obj) : (w.alloc o).heap[w.heap.size]? = some o := by show (w.heap.push o)[w.heap.size]? = some o; exact Array.getElem?_push_size
theorem size_set (W : World) (p : Addr) (u : Value) : W.heap.size ≤ (W.setCell p u).heap.size := (Kept.setCell (Kept.refl W (fun _ => True)) (p := p) (.inl trivial) u).1
theorem size_made (W : World) (o : Obj) : (W.alloc o).heap.size = W.heap.size + 1 := by show (W.heap.push o).size = _; exact Array.size_push ..
theorem made_R {w W w7 Wf : World} {v : Value} {xs : List Int} {ok : Nat → Prop} {lo : Nat} (h : Kd.R (Kd.int .i64) 3 w7 W.heap.size ok v xs) (hw : w.heap.size ≤ W.heap.size) (c : ∀ k, W.heap.size ≤ k → k < w7.heap.size → Wf.heap[k]? = w7.heap[k]?) (hs : w7.heap.size ≤ Wf.heap.size) (hlo : lo ≤ W.heap.size) :
    Kd.R (Kd.int .i64) 3 Wf w.heap.size (fun k => lo ≤ k ∧ k < Wf.heap.size) v xs :=
  Kd.R_mono (Kd.R_lower (Kd.R_step (Kd.R_bound h) (fun k hk _ => c k hk.2.1 hk.2.2.1)) hw) (fun _ hk => ⟨Nat.le_trans hlo hk.2.1, Nat.lt_of_lt_of_le hk.2.2.1 hs⟩)
theorem made_S {w W w7 Wf : World} {v : Value} {xs : List (List Int)} {ok : Nat → Prop} {lo : Nat} (h : Kd.S (Kd.slice 3 (Kd.int .i64)) 22 w7 W.heap.size ok v xs) (hw : w.heap.size ≤ W.heap.size) (c : ∀ k, W.heap.size ≤ k → k < w7.heap.size → Wf.heap[k]? = w7.heap[k]?) (hs : w7.heap.size ≤ Wf.heap.size) (hlo : lo ≤ W.heap.size) :
    Kd.S (Kd.slice 3 (Kd.int .i64)) 22 Wf w.heap.size (fun k => (lo ≤ k ∧ k < Wf.heap.size) ∧ ok k) v xs :=
  Kd.S_mono (Kd.S_lower (Kd.S_step (Kd.S_bound h) (fun k hk _ => c k hk.2.1 hk.2.2.1)) hw) (fun _ hk => ⟨⟨Nat.le_trans hlo hk.2.1, Nat.lt_of_lt_of_le hk.2.2.1 hs⟩, hk.1⟩)

end Go.Proofs.YthdoglkdcbghpaaDoor.F
