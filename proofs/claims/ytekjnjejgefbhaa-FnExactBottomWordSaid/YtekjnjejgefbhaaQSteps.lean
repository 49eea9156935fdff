/- Steps of a walk over what is held: a row put at the end of a list of rows, a number stored into a row of a list, a row of a list cut or grown; no condition beyond those named. -/
import Derived.Test.YtekjnjejgefbhaaF0
import Derived.Test.YtekjnjejgefbhaaQBase
import Derived.Test.YtekjnjejgefbhaaQKeep
set_option linter.unusedVariables false
set_option linter.unusedSimpArgs false
namespace Go.Proofs.Ytekjnjejgefbhaa.Q
open Go.RowKit Go.Proofs.Ytekjnjejgefbhaa.F Go.Proofs.YtekjnjejgefbhaaW.PrintWords Go.Proofs.YtekjnjejgefbhaaW.PrintLast Go.Proofs.YtekjnjejgefbhaaW.PrintMore
section
variable {w W w1 : World} {L : List Ob}
/-- the first objects are done anew, out of their blocks and new ones -/
theorem St.redo {P P' : List Ob} (h : St w W (P ++ L)) (hK : Kept W w1 (fun k => ∃ p ∈ P, p.ok k)) (hB : Below w.heap.size w w1)
    (hP : ∀ o ∈ P', (∀ k, o.ok k → ((∃ p ∈ P, p.ok k) ∨ W.heap.size ≤ k) ∧ w.heap.size ≤ k ∧ k < w1.heap.size) ∧ o.P w1 ∧ Firm o) (ha : P'.Pairwise (fun a b => ∀ k, a.ok k → ¬ b.ok k)) : St w w1 (P' ++ L) := by
  obtain ⟨_, hL, hPL⟩ := List.pairwise_append.1 h.apart
  refine ⟨hB, fun o ho => ?_, List.pairwise_append.2 ⟨ha, hL, fun a haP b hb k hak hbk => ?_⟩⟩
  · rcases List.mem_append.1 ho with ho | ho
    · obtain ⟨h1, h2, h3⟩ := hP o ho
      exact ⟨fun k hk => (h1 k hk).2, h2, h3⟩
    · obtain ⟨h1, h2, h3⟩ := h.own o (List.mem_append_right _ ho)
      exact ⟨fun k hk => ⟨(h1 k hk).1, Nat.lt_of_lt_of_le (h1 k hk).2 hK.1⟩, h3 W w1 h2 (fun k hk hlt => hK.2 k hlt (fun ⟨p, hp, hpk⟩ => hPL p hp o ho k hpk hk)), h3⟩
  · rcases ((hP a haP).1 k hak).1 with ⟨p, hp, hpk⟩ | hnew
    · exact hPL p hp b hb k hpk hbk
    · have := ((h.own b (List.mem_append_right _ hb)).1 k hbk).2
      omega
theorem St.perm_ {L' : List Ob} (h : St w W L) (hp : List.Perm L L') : St w W L' :=
  ⟨h.below, fun o ho => h.own o (hp.mem_iff.2 ho), (hp.pairwise_iff (fun hab k hb ha => hab k ha hb)).1 h.apart⟩
/-- an object is given up -/
theorem St.drop_ {o : Ob} (h : St w W (o :: L)) : St w W L := ⟨h.below, fun p hp => h.own p (List.mem_cons_of_mem _ hp), (List.pairwise_cons.1 h.apart).2⟩
theorem St.less {L' : List Ob} (h : St w W L) (hs : List.Sublist L' L) : St w W L' := ⟨h.below, fun p hp => h.own p (hs.subset hp), h.apart.sublist hs⟩
theorem St.size_le (h : St w W L) : w.heap.size ≤ W.heap.size := h.below.size
end
/-- in place: one object is done anew, out of its blocks and new ones -/
theorem St.redo1 {w W w1 : World} {L : List Ob} {o o' : Ob} (h : St w W L) (n : Nat) (hn : L[n]? = some o) (hK : Kept W w1 o.ok) (hB : Below w.heap.size w w1)
    (hP : (∀ k, o'.ok k → (o.ok k ∨ W.heap.size ≤ k) ∧ w.heap.size ≤ k ∧ k < w1.heap.size) ∧ o'.P w1 ∧ Firm o') : St w w1 (L.set n o') := by
  obtain ⟨hnl, hno⟩ := List.getElem?_eq_some_iff.1 hn
  have e0 : L = L.take n ++ o :: L.drop (n + 1) := by rw [← hno, ← List.drop_eq_getElem_cons hnl, List.take_append_drop]
  have e1 : List.Perm L ([o] ++ (L.take n ++ L.drop (n + 1))) := by
    have := List.perm_middle (a := o) (l₁ := L.take n) (l₂ := L.drop (n + 1))
    rwa [← e0] at this
  have e2 : List.Perm ([o'] ++ (L.take n ++ L.drop (n + 1))) (L.set n o') := by
    rw [List.set_eq_take_append_cons_drop, if_pos hnl]
    exact (List.perm_middle (a := o') (l₁ := L.take n) (l₂ := L.drop (n + 1))).symm
  refine St.perm_ (St.redo (St.perm_ h e1) (w1 := w1) (P' := [o']) ⟨hK.1, fun k hk hp => hK.2 k hk (fun ho => hp ⟨o, by simp, ho⟩)⟩ hB ?_ (List.pairwise_singleton _ _)) e2
  intro q hq
  obtain rfl := List.mem_singleton.1 hq
  exact ⟨fun k hk => ⟨(hP.1 k hk).1.imp (fun h1 => ⟨o, by simp, h1⟩) id, (hP.1 k hk).2⟩, hP.2⟩
section
variable {ops : Array Oper} {rest : List Oper} {oi : Oper} {a : Act} {Q : Exit → Act → World → Prop} {Kc : Act → World → Prop} {w W : World} {L : List Ob} {α : Type} {d : Kd α} {o0 : Ob} {ok : Nat → Prop} {v : Value} {xs : List α} {p : α} {cs : List Value} {e t : Nat}
theorem St.pushed {w1 : World} {v1 : Value} (h : St w W (o0 :: obS d e w ok v xs :: L)) (hS : Kd.S d e w1 w.heap.size (fun k => (ok k ∨ o0.ok k) ∨ W.heap.size ≤ k) v1 (xs ++ [p])) (hB : Below w.heap.size w w1) (hg : W.grownBy w1 v.ownBlock) : ∃ ok1, St w w1 (obS d e w ok1 v1 (xs ++ [p]) :: L) := by
  have hv := (Kd.S_R (show Kd.S d e W w.heap.size ok v xs from h.get 1 rfl)).1
  refine ⟨fun k => ((ok k ∨ o0.ok k) ∨ W.heap.size ≤ k) ∧ w.heap.size ≤ k ∧ k < w1.heap.size, St.redo (P := [o0, obS d e w ok v xs]) (P' := [obS d e w _ v1 (xs ++ [p])]) h ⟨hg.size, fun k hk hn => hg.block k hk (fun e2 => hn ⟨obS d e w ok v xs, by simp, hv k e2.symm⟩)⟩ hB ?_ (List.pairwise_singleton _ _)⟩
  intro q hq
  obtain rfl := List.mem_singleton.1 hq
  refine ⟨fun k hk => ⟨?_, hk.2⟩, Kd.S_mono (Kd.S_bound hS) (fun k hk => ⟨hk.1, hk.2.1, hk.2.2.1⟩), firmS⟩
  rcases hk.1 with (h1 | h1) | h1
  · exact .inl ⟨obS d e w ok v xs, by simp, h1⟩
  · exact .inl ⟨o0, by simp, h1⟩
  · exact .inr h1
/-- append(v, row): the row is the list's from here on -/
theorem St.push (hgd : oi.guard = none) (s x : Operand) (ho : oi.op = .call { callee := .builtin .append, args := #[s, x], argTypes := #[t, t] }) (ht : (Try.prog).underlying t = some (.slice e)) (z : Value) (bytes : Nat) (hinfo : ((Try.prog).info? e).map (fun i => (i.zero, i.size, i.bytes)) = some (some z, d.sz, bytes)) (hz : z.cells.size = d.sz) (hs0 : 0 < d.sz) (hb0 : 0 < bytes)
    (h : St w W (o0 :: obS d e w ok v xs :: L)) (hs : a.eval s = v) (hx : a.eval x = .slice (some ⟨W.heap.size, 0, none⟩) 1 1) (hM : d.M W w.heap.size o0.ok p cs) (hl : (xs.length + 1) * bytes ≤ 140737488355328)
    (hk : ∀ v1 w1 ok1, St w w1 (obS d e w ok1 v1 (xs ++ [p]) :: L) → wpList Try.prog ops Q rest (a.put oi.dst v1) w1) :
    wpList Try.prog ops Q (oi :: rest) a (W.alloc (.cells cs.toArray e)) := by
  have hap : ∀ k, o0.ok k → ¬ ok k := (List.pairwise_cons.1 h.apart).1 (obS d e w ok v xs) (by simp)
  have hS : Kd.S d e W w.heap.size ok v xs := h.get 1 rfl
  have hlt : ∀ k, ok k → k < W.heap.size := fun k hk => ((h.own (obS d e w ok v xs) (by simp)).1 k hk).2
  have hlt0 : ∀ k, o0.ok k → k < W.heap.size := fun k hk => ((h.own o0 (by simp)).1 k hk).2
  refine Kd.S_append d (w0 := w) w.heap.size hgd s x t e z bytes ho ht hinfo hz hs0 hb0 v xs p cs (fun k => (ok k ∨ o0.ok k) ∨ W.heap.size ≤ k) o0.ok hs hx hM (fun k hk => ⟨.inl (.inr hk), fun e2 => hap k hk ((Kd.S_R hS).1 k e2.symm)⟩) (fun k hk => .inr hk) (Kd.S_mono hS (fun k hk => ⟨.inl (.inl hk), fun h2 => hap k h2 hk⟩)) h.below h.below.size hl ?_
  intro v1 w1 hS1 hB hg _
  obtain ⟨ok1, h1⟩ := St.pushed h hS1 hB hg
  exact hk v1 w1 ok1 h1
/-- the same as a step of a region that draws -/
theorem St.push_step (hw : Region.wanted oi (yielded ops a.tmps) = true) (s x : Operand) (ho : oi.op = .call { callee := .builtin .append, args := #[s, x], argTypes := #[t, t] }) (ht : (Try.prog).underlying t = some (.slice e)) (z : Value) (bytes : Nat) (hinfo : ((Try.prog).info? e).map (fun i => (i.zero, i.size, i.bytes)) = some (some z, d.sz, bytes)) (hz : z.cells.size = d.sz) (hs0 : 0 < d.sz) (hb0 : 0 < bytes)
    (h : St w W (o0 :: obS d e w ok v xs :: L)) (hs : a.eval s = v) (hx : a.eval x = .slice (some ⟨W.heap.size, 0, none⟩) 1 1) (hM : d.M W w.heap.size o0.ok p cs) (hl : (xs.length + 1) * bytes ≤ 140737488355328)
    (hk : ∀ v1 w1 ok1, St w w1 (obS d e w ok1 v1 (xs ++ [p]) :: L) → Kc (a.put oi.dst v1) w1) :
    if Region.wanted oi (yielded ops a.tmps) = true then Oper.wp Try.prog oi a (W.alloc (.cells cs.toArray e)) Kc Q else Kc (a.put oi.dst undef) (W.alloc (.cells cs.toArray e)) := by
  have hap : ∀ k, o0.ok k → ¬ ok k := (List.pairwise_cons.1 h.apart).1 (obS d e w ok v xs) (by simp)
  have hS : Kd.S d e W w.heap.size ok v xs := h.get 1 rfl
  refine Kd.S_append_step d (w0 := w) w.heap.size hw s x t e z bytes ho ht hinfo hz hs0 hb0 v xs p cs (fun k => (ok k ∨ o0.ok k) ∨ W.heap.size ≤ k) o0.ok hs hx hM (fun k hk => ⟨.inl (.inr hk), fun e2 => hap k hk ((Kd.S_R hS).1 k e2.symm)⟩) (fun k hk => .inr hk) (Kd.S_mono hS (fun k hk => ⟨.inl (.inl hk), fun h2 => hap k h2 hk⟩)) h.below h.below.size hl ?_
  intro v1 w1 hS1 hB hg _
  obtain ⟨ok1, h1⟩ := St.pushed h hS1 hB hg
  exact hk v1 w1 ok1 h1
/-- append(v, x) of a whole number -/
theorem St.put1 {xs : List Int} {x : Int} {bb c : Nat} (hgd : oi.guard = none) (s y : Operand) (ho : oi.op = .call { callee := .builtin .append, args := #[s, y], argTypes := #[22, 22] })
    (h : St w W L) (n : Nat) (hn : L[n]? = some (obR (Kd.int .i64) 3 w ok v xs)) (hs : a.eval s = v) (hx : a.eval y = .slice (some ⟨W.heap.size, 0, none⟩) 1 1) (hl : (xs.length + 1) * 8 ≤ 140737488355328)
    (hk : ∀ v1 w1 ok1, St w w1 (L.set n (obR (Kd.int .i64) 3 w ok1 v1 (xs ++ [x]))) → wpList Try.prog ops Q rest (a.put oi.dst v1) w1) :
    wpList Try.prog ops Q (oi :: rest) a (W.alloc (.cells #[.int .i64 x] 3)) := by
  have hR : Kd.R (Kd.int .i64) 3 W w.heap.size ok v xs := h.get n hn
  refine Kd.R_append (Kd.int .i64) (w0 := w) w.heap.size hgd s y 22 3 (.int .i64 0) 8 ho Try.underlying22 info3 rfl (by decide) (by omega) v xs x [.int .i64 x] (fun k => ok k ∨ W.heap.size ≤ k) (fun _ => False) hs hx rfl (fun _ h => h.elim) (fun _ h => .inr h) (Kd.R_mono hR (fun k hk => .inl hk)) h.below h.below.size hl ?_
  intro v1 w1 hR1 hB hg _
  exact hk v1 w1 _ (St.redo1 (o' := obR (Kd.int .i64) 3 w (fun k => (ok k ∨ W.heap.size ≤ k) ∧ w.heap.size ≤ k ∧ k < w1.heap.size) v1 (xs ++ [x])) h n hn ⟨hg.size, fun k hk hne => hg.block k hk (fun e2 => hne (hR.1 k e2.symm))⟩ hB ⟨fun k hk => hk, Kd.R_mono (Kd.R_bound hR1) (fun k hk => ⟨hk.1, hk.2.1, hk.2.2.1⟩), firmR⟩)
end
section
variable {w W : World} {L : List Ob} {ok : Nat → Prop} {v : Value} {xs : List (List Int)}
/-- a row of a list, lent: where it lies, and what the list is once the row is a part of itself or a number in it is another -/
theorem St.lendS (h : St w W L) (n : Nat) (hn : L[n]? = some (obS (Kd.slice 3 (Kd.int .i64)) 22 w ok v xs)) (i : Nat) (hi : i < xs.length) {r : List Int} (hr : xs[i] = r) :
    ∃ g c A1 c1, v = .slice (some ⟨g, 0, none⟩) xs.length c ∧ w.heap.size ≤ g ∧ W.cell? ⟨g, i, none⟩ = some (.slice A1 r.length c1) ∧ W.frozen? ⟨g, i, none⟩ = false ∧ r.length ≤ c1 ∧ Reads (Kd.int .i64) W (.slice A1 r.length c1) r ∧
      (0 < r.length → ∃ g1, A1 = some ⟨g1, 0, none⟩ ∧ w.heap.size ≤ g1) ∧
      (∀ j g1, j < r.length → A1 = some ⟨g1, 0, none⟩ → W.cell? ⟨g1, j, none⟩ = some (.int .i64 (rd r (j : Int))) ∧ W.frozen? ⟨g1, j, none⟩ = false ∧ ∀ x : Int, St w (W.setCell ⟨g1, j, none⟩ (.int .i64 x)) (L.set n (obS (Kd.slice 3 (Kd.int .i64)) 22 w ok v (xs.set i (r.set j x))))) ∧
      (∀ m, m ≤ r.length → St w (W.setCell ⟨g, i, none⟩ (.slice A1 m c1)) (L.set n (obS (Kd.slice 3 (Kd.int .i64)) 22 w ok v (xs.set i (r.take m))))) := by
  subst hr
  have hS : Kd.S (Kd.slice 3 (Kd.int .i64)) 22 W w.heap.size ok v xs := h.get n hn
  have hw := (h.own _ (List.mem_of_getElem? hn)).1
  obtain ⟨A, c, rfl⟩ := Kd.R_slice (Kd.S_R hS)
  obtain ⟨g, c', e0, _⟩ := Kd.R_form (Kd.S_R hS) (by omega)
  injection e0 with ea _ _
  subst ea
  have hgok : ok g := (Kd.S_R hS).1 g (by simp [Value.ownBlock])
  have hgb : w.heap.size ≤ g := Kd.R_base (Kd.S_R hS) g (by simp [Value.ownBlock])
  obtain ⟨oki, cs, hcl, hM, hcc, hfr, hoki, hH⟩ := Kd.S_elem hS [] (i : Int) (by omega) (by omega)
  have ex : xs.getD (i : Int).toNat [] = xs[i] := by rw [Int.toNat_natCast, List.getD_eq_getElem?_getD, List.getElem?_eq_getElem hi]; rfl
  rw [ex] at hM
  obtain ⟨u, rfl, hR⟩ := hM
  obtain ⟨A1, c1, hu, hle, hC1⟩ := Kd.R_reads hR
  subst hu
  have ei : (i : Int).toNat * (Kd.slice 3 (Kd.int .i64)).sz + 0 = i := by show (i : Int).toNat * 1 + 0 = i; omega
  have hx1 := hcc 0 _ rfl
  have hf1 := hfr 0
  rw [ei] at hx1 hf1
  refine ⟨g, c, A1, c1, rfl, hgb, hx1, hf1, hle, ⟨A1, c1, rfl, hle, hC1⟩, fun hp => ?_, fun j g1 hj hA => ?_, fun m hm => ?_⟩
  · obtain ⟨g1, c2, e2, gb2, _⟩ := Kd.R_form hR (by omega)
    injection e2 with ea _ _
    exact ⟨g1, ea, gb2⟩
  · subst hA
    obtain ⟨hy, hz⟩ := Kd.R_celln 0 hR (j : Int) (by omega) (by omega)
    rw [Int.toNat_natCast] at hy hz
    refine ⟨hy, hz, fun x => ?_⟩
    have hg1 : oki g1 := hR.1 g1 (by simp [Value.ownBlock])
    have hb1 : w.heap.size ≤ g1 := Kd.R_base hR g1 (by simp [Value.ownBlock])
    have hP := Kd.R_putg hR (j : Int) x
    rw [Int.toNat_natCast] at hP
    have h1 := Kd.H_back (Kd.H_step hH (fun k _ hn' hlt => hP.2.block k hlt (fun e => hn' (by cases e; exact hg1)))) (x' := xs[i].set j x) (okp := oki) ⟨_, rfl, hP.1⟩ (fun _ h => h)
    rw [Int.toNat_natCast] at h1
    refine St.redo1 (o' := obS _ _ w ok _ _) h n hn ⟨hP.2.size, fun k hk hne => hP.2.block k hk (fun e => hne (by cases e; exact (hoki g1 hg1).1))⟩ (below_set h.below hb1) ⟨fun k hk => ⟨.inl hk, (hw k hk).1, Nat.lt_of_lt_of_le (hw k hk).2 hP.2.size⟩, h1, firmS⟩
  · have h2 := Kd.S_seg0 hH (show (0 : Int) ≤ (i : Int) by omega) (show (i : Int) < (xs.length : Int) by omega) (seg := [.slice A1 m c1]) (j := 0) (show 1 ≤ 1 from by decide) (x' := xs[i].take m) (okp := oki) ⟨.slice A1 m c1, rfl, Kd.R_take hR hm⟩ (fun _ h => h)
    rw [ei, Int.toNat_natCast] at h2
    refine St.redo1 (o' := obS _ _ w ok _ _) h n hn ⟨h2.2.size, fun k hk hne => h2.2.block k hk (fun e => hne (by cases e; exact hgok))⟩ (below_set h.below hgb) ⟨fun k hk => ⟨.inl hk, (hw k hk).1, Nat.lt_of_lt_of_le (hw k hk).2 h2.2.size⟩, h2.1, firmS⟩
end
section
variable {ops : Array Oper} {rest : List Oper} {oi : Oper} {a : Act} {Q : Exit → Act → World → Prop} {w W : World} {L : List Ob} {ok : Nat → Prop} {v : Value} {xs : List (List Int)}
/-- append(rows[i], x), ahead of the store into rows[i] -/
theorem St.growRow (hgd : oi.guard = none) (s y : Operand) (ho : oi.op = .call { callee := .builtin .append, args := #[s, y], argTypes := #[22, 22] }) {x : Int}
    (h : St w W L) (n : Nat) (hn : L[n]? = some (obS (Kd.slice 3 (Kd.int .i64)) 22 w ok v xs)) (i : Nat) (hi : i < xs.length) {r : List Int} (hr : xs[i] = r) {g c c1 : Nat} {A1 : Option Addr} (hv : v = .slice (some ⟨g, 0, none⟩) xs.length c) (hc : W.cell? ⟨g, i, none⟩ = some (.slice A1 r.length c1))
    (hs : a.eval s = .slice A1 r.length c1) (hx : a.eval y = .slice (some ⟨W.heap.size, 0, none⟩) 1 1) (hl : (r.length + 1) * 8 ≤ 140737488355328)
    (hk : ∀ A2 c2 w1, w1.cell? ⟨g, i, none⟩ = some (.slice A1 r.length c1) → w1.frozen? ⟨g, i, none⟩ = false → (∃ ok2, St w (w1.setCell ⟨g, i, none⟩ (.slice A2 (r.length + 1) c2)) (L.set n (obS (Kd.slice 3 (Kd.int .i64)) 22 w ok2 v (xs.set i (r ++ [x]))))) → wpList Try.prog ops Q rest (a.put oi.dst (.slice A2 (r.length + 1) c2)) w1) :
    wpList Try.prog ops Q (oi :: rest) a (W.alloc (.cells #[.int .i64 x] 3)) := by
  subst hv hr
  have hS : Kd.S (Kd.slice 3 (Kd.int .i64)) 22 W w.heap.size ok (.slice (some ⟨g, 0, none⟩) xs.length c) xs := h.get n hn
  have hw := (h.own _ (List.mem_of_getElem? hn)).1
  have hgok : ok g := (Kd.S_R hS).1 g (by simp [Value.ownBlock])
  have hgb : w.heap.size ≤ g := Kd.R_base (Kd.S_R hS) g (by simp [Value.ownBlock])
  obtain ⟨oki, cs, hcl, hM, hcc, hfr, hoki, hH⟩ := Kd.S_elem hS [] (i : Int) (by omega) (by omega)
  have ex : xs.getD (i : Int).toNat [] = xs[i] := by rw [Int.toNat_natCast, List.getD_eq_getElem?_getD, List.getElem?_eq_getElem hi]; rfl
  rw [ex] at hM
  obtain ⟨u, rfl, hR⟩ := hM
  have ei : (i : Int).toNat * (Kd.slice 3 (Kd.int .i64)).sz + 0 = i := by show (i : Int).toNat * 1 + 0 = i; omega
  have hx1 := hcc 0 _ rfl
  rw [ei, hc] at hx1
  injection hx1 with hx1
  subst hx1
  refine Kd.R_append (Kd.int .i64) (w0 := w) w.heap.size hgd s y 22 3 (.int .i64 0) 8 ho Try.underlying22 info3 rfl (by decide) (by omega) (.slice A1 xs[i].length c1) xs[i] x [.int .i64 x] (fun k => oki k ∨ W.heap.size ≤ k) (fun _ => False) hs hx rfl (fun _ h => h.elim) (fun _ h => .inr h) (Kd.R_mono hR (fun k hk => .inl hk)) h.below h.below.size hl ?_
  intro v1 w1 hR1 hB hg hat
  obtain ⟨A2, c2, e2⟩ := Kd.R_slice hR1
  subst e2
  have hne : some g ≠ (Value.slice A1 xs[i].length c1).ownBlock := fun e => (hoki g (hR.1 g e.symm)).2 rfl
  have hH1 : Kd.H (Kd.slice 3 (Kd.int .i64)) 22 w1 w.heap.size (fun k => ok k ∨ W.heap.size ≤ k) (.slice (some ⟨g, 0, none⟩) xs.length c) xs (i : Int) (fun k => oki k ∨ (ok k ∨ W.heap.size ≤ k) ∧ W.heap.size ≤ k) [.slice A1 xs[i].length c1] := by
    have := Kd.H_widen (Kd.H_mono hH (fun k hk => (.inl hk : ok k ∨ W.heap.size ≤ k)))
    have h3 := Kd.H_grown this hg (fun k e => .inl (hR.1 k e))
    exact h3
  obtain ⟨hc7, hf7⟩ := Kd.H_at hH1 (show (0 : Int) ≤ (i : Int) by omega) (show (i : Int) < (xs.length : Int) by omega)
  have hx7 := hc7 0 _ rfl
  have hy7 := hf7 0
  rw [ei] at hx7 hy7
  rw [show (xs[i] ++ [x]).length = xs[i].length + 1 by simp] at hR1 ⊢
  refine hk A2 c2 w1 hx7 hy7 ⟨fun k => (ok k ∨ W.heap.size ≤ k) ∧ w.heap.size ≤ k ∧ k < w1.heap.size, ?_⟩
  have h2 := Kd.S_seg0 hH1 (show (0 : Int) ≤ (i : Int) by omega) (show (i : Int) < (xs.length : Int) by omega) (seg := [.slice A2 (xs[i].length + 1) c2]) (j := 0) (show 1 ≤ 1 from by decide) (x' := xs[i] ++ [x]) (okp := fun k => oki k ∨ W.heap.size ≤ k) ⟨.slice A2 (xs[i].length + 1) c2, rfl, hR1⟩ (fun k hk => hk.imp id (fun h => ⟨.inr h, h⟩))
  rw [ei, Int.toNat_natCast] at h2
  have hz := hg.size
  refine St.redo1 (o' := obS _ _ w _ _ _) h n hn ⟨Nat.le_trans hg.size h2.2.size, fun k hk hne => ?_⟩ (below_set hB hgb) ⟨fun k hk => ⟨hk.1, hk.2.1, Nat.lt_of_lt_of_le hk.2.2 h2.2.size⟩, Kd.S_mono (Kd.S_bound h2.1) (fun k hk => ⟨hk.1, hk.2.1, ?_⟩), firmS⟩
  · exact (h2.2.block k (Nat.lt_of_lt_of_le hk hz) (fun e => hne (by cases e; exact hgok))).trans (hg.block k hk (fun e => hne (hoki k (hR.1 k e.symm)).1))
  · have := hk.2.2.1
    have e3 : (w1.setCell ⟨g, i, none⟩ (.slice A2 (xs[i].length + 1) c2)).heap.size = w1.heap.size := by simp [World.setCell]
    have e4 : (w1.setCells g i [.slice A2 (xs[i].length + 1) c2]).heap.size = w1.heap.size := e3
    omega
end
section
variable {ops : Array Oper} {rest : List Oper} {oi : Oper} {a : Act} {Q : Exit → Act → World → Prop} {w W : World} {L : List Ob}
/-- make([]int, z) -/
theorem St.make0 {N : Tmp} (hgd : oi.guard = none) (hd : oi.dst = some N) (x y : Operand) (ho : oi.op = .makeSlice 22 x y) (z : Nat) (hx : a.eval x = .int .i64 (z : Int)) (hy : a.eval y = .int .i64 (z : Int)) (hl : z * 8 ≤ 281474976710656) (h : St w W L)
    (hk : ∀ v1 w1 ok1, St w w1 (obR (Kd.int .i64) 3 w ok1 v1 (List.replicate z 0) :: L) → wpList Try.prog ops Q rest (a.put oi.dst v1) w1) : wpList Try.prog ops Q (oi :: rest) a W := by
  refine Kd.R_make (Kd.int .i64) (w0 := W) W.heap.size 3 hgd hd 22 x y ho (z : Int) hx hy Try.underlying22 (.int .i64 0) 8 info3 rfl (by decide) (by omega) 0 (ok := fun _ => True) (okp := fun _ => True) rfl (fun _ hk => hk) trivial (by omega) (by rw [Int.toNat_natCast]; exact hl) (Below.refl _ _) (Nat.le_refl _) ?_
  intro v1 w1 hR hB hg _
  rw [Int.toNat_natCast] at hR
  obtain ⟨ok1, h1⟩ := h.addR hB hR
  exact hk v1 w1 ok1 h1
/-- a literal of no element -/
theorem St.lit0 {α : Type} (d : Kd α) (e : Nat) {N : Tmp} (hgd : oi.guard = none) (hd : oi.dst = some N) (hrun : (execOp a.eval oi).run Try.prog W = .ok (.value (.slice (some ⟨W.heap.size, 0, none⟩) 0 0)) (W.alloc (.cells #[] e))) (h : St w W L)
    (hk : ∀ v1 w1 ok1, St w w1 (obS d e w ok1 v1 [] :: L) → wpList Try.prog ops Q rest (a.put oi.dst v1) w1) : wpList Try.prog ops Q (oi :: rest) a W := by
  refine Kd.S_lit d (w0 := W) W.heap.size e hgd hd (xs := []) (inner := []) (ok := fun _ => True) (okp := fun _ => False) hrun (Reps.none _ _) (fun _ h => h.elim) trivial (Below.refl _ _) (Nat.le_refl _) (by simp) ?_
  intro v1 w1 hS hB _ _
  obtain ⟨ok1, h1⟩ := h.addS hB hS
  exact hk v1 w1 ok1 h1
end
section
variable {α β : Type} {d : Kd α} {d' : Kd β} {t t' : Nat} {w W W' : World} {v v' : Value} {xs : List α} {ys : List β} {L : List Ob}
/-- two made at once, that lead to nothing -/
theorem St.addRR (hE : d.E = []) (hE' : d'.E = []) (h : St w W L) (hb : Below W.heap.size W W') (hr : Kd.R d t W' W.heap.size (fun k => some k ≠ v'.ownBlock) v xs) (hr' : Kd.R d' t' W' W.heap.size (fun k => some k ≠ v.ownBlock) v' ys) : ∃ ok1 ok2, St w W' (obR d t w ok1 v xs :: obR d' t' w ok2 v' ys :: L) := by
  have hs := h.below.size
  have b1 := Kd.R_bound (Kd.R_tight hE hr)
  have b2 := Kd.R_bound (Kd.R_tight hE' hr')
  refine ⟨_, _, h.add2 (o := obR d t w (fun k => some k = v.ownBlock ∧ W.heap.size ≤ k ∧ k < W'.heap.size) v xs) (o' := obR d' t' w (fun k => some k = v'.ownBlock ∧ W.heap.size ≤ k ∧ k < W'.heap.size) v' ys) hb (fun _ hk => hk.2) ?_ firmR (fun _ hk => hk.2) ?_ firmR (fun k hk hk2 => ?_)⟩
  · exact Kd.R_mono (Kd.R_lower b1 hs) (fun k hk => ⟨hk.1, hk.2.1, hk.2.2.1⟩)
  · exact Kd.R_mono (Kd.R_lower b2 hs) (fun k hk => ⟨hk.1, hk.2.1, hk.2.2.1⟩)
  · exact hr.1 k hk.1.symm hk2.1
end
/-- a literal of elements, as an event -/
theorem lit_event {ops : Array Oper} {rest : List Oper} {oi : Oper} {a : Act} {Q : Exit → Act → World → Prop} {W : World} {N : Tmp} (hgd : oi.guard = none) (_hd : oi.dst = some N) {cs : Array Value} {t n : Nat}
    (hrun : (execOp a.eval oi).run Try.prog W = .ok (.value (.slice (some ⟨W.heap.size, 0, none⟩) n n)) (W.alloc (.cells cs t (0, 0))))
    (h : ∀ b, b = W.heap.size → ∀ w1, w1.heap[b]? = some (.cells cs t (0, 0)) → Below W.heap.size W w1 → wpList Try.prog ops Q rest (a.put oi.dst (.slice (some ⟨b, 0, none⟩) n n)) w1) : wpList Try.prog ops Q (oi :: rest) a W :=
  Kd.event_run hgd hrun (h _ rfl _ (blk_new W _) (below_alloc (Below.refl _ _) _))
/-- s[z:] of whole numbers -/
theorem cut_ints (A : Option Addr) (n c z : Nat) (h : z ≤ n) (W : World) : (Instr.slice 22 (.slice A n c) (some (.int .i64 (z : Int))) none none).run Try.prog W = .ok (.slice (if c = z then A else A.map (·.add z)) (n - z) (c - z)) W := by
  obtain ⟨i, hi, hz⟩ := Option.map_eq_some_iff.1 info3
  simp only [Prod.mk.injEq] at hz
  have := cut_from (P := Try.prog) 22 3 .i64 Try.underlying22 hi 1 hz.2.1 A n c (z : Int) (by omega) (by omega) W
  simpa using this
end Go.Proofs.Ytekjnjejgefbhaa.Q
