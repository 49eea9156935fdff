/- For each Go function named below: the plain Lean function that it computes, and that its call returns just that; conditions: those that each theorem names. -/
import Derived.Test.YtpandocpclecgaaGreatDoorShelf
import Derived.Test.YtpandocpclecgaaGreatDoorF0
import Derived.Test.YtpandocpclecgaaGreatDoorF1
import Derived.Test.YtpandocpclecgaaGreatDoorF2
import Derived.Test.YtpandocpclecgaaGreatDoorF7
namespace Go.Proofs.YtpandocpclecgaaGreatDoor.F
open Go.RowKit Go.Proofs.YtpandocpclecgaaGreatDoorW.PrintWords Go.Proofs.YtpandocpclecgaaGreatDoorW.PrintLast Go.Proofs.YtpandocpclecgaaGreatDoorW.PrintMore
attribute [local go_sem] max2_int min2_int max_two min_two max_three min_three max_four min_four   -- for this text's walks alone
set_option linter.unusedVariables false
set_option linter.unusedSimpArgs false

def spec_WordText.l0 : Nat → List Int → ByteArray → Int → Option (ByteArray)
 | 0, _, _, _ => none
 | k + 1, x0, x3, x4 => if x4 < (x0.length : Int) then (if 0 ≤ x4 then ((spec_FormatInt.f k (rd x0 x4)).bind fun t446 => (if x3.size + t446.size ≤ 9223372036854775807 then (spec_WordText.l0 k x0 (x3 ++ t446) (wrap64 (x4 + 1))) else (none))) else (none)) else (some x3)
def spec_WordText.f (k : Nat) (l0 : List Int) : Option (ByteArray) := (spec_IsWord.f k l0).bind fun t444 => (if t444 = true then (if (l0.length : Int) = 0 then (some (⟨#[45]⟩ : ByteArray)) else (spec_WordText.l0 k l0 (⟨#[]⟩ : ByteArray) 0)) else (some (⟨#[]⟩ : ByteArray)))
set_option maxHeartbeats 8000000 in
set_option maxRecDepth 100000 in
theorem spec_WordText.calls (k : Nat) (A0 : Option Addr) (c0 : Nat) (l0 : List Int) (r : ByteArray) (w : World) (hr0 : Kd.C (Kd.int .i64) w A0 l0.length l0) (hc0 : l0.length ≤ c0) (h : spec_WordText.f k l0 = some r) :
  Calls Tryz.prog 30 #[.slice A0 l0.length c0] w fun e w' => e = .returned (.string r) ∧ Below w.heap.size w w' := by
 have HR0 := Aside0.mk hr0
 have HC0 := Aside0.mk hc0
 clear hr0 hc0
 have HB := Aside0.mk (Below.refl w.heap.size w)
 have H : ((spec_IsWord.f k l0).bind fun t444 => (if t444 = true then (if (l0.length : Int) = 0 then (some (⟨#[45]⟩ : ByteArray)) else (spec_WordText.l0 k l0 (⟨#[]⟩ : ByteArray) 0)) else (some (⟨#[]⟩ : ByteArray)))) = some r := h
 clear h
 replace H := Option.bind_eq_some_iff.mp H
 obtain ⟨t444, A20, H⟩ := H
 replace H : (if t444 = true then (if (l0.length : Int) = 0 then (some (⟨#[45]⟩ : ByteArray)) else (spec_WordText.l0 k l0 (⟨#[]⟩ : ByteArray) 0)) else (some (⟨#[]⟩ : ByteArray))) = some r := H
 have A2 := Aside0.mk A20
 clear A20
 by_cases c3 : t444 = true
 ·subst c3
  have H1 : (if (l0.length : Int) = 0 then (some (⟨#[45]⟩ : ByteArray)) else (spec_WordText.l0 k l0 (⟨#[]⟩ : ByteArray) 0)) = some r := by rw [if_pos rfl] at H; exact H
  clear H
  have H := H1
  clear H1
  by_cases c4 : (l0.length : Int) = 0
  ·rw [if_pos c4] at H
   have c4b0 : ((l0.length : Int) == 0) = true := beq_iff_eq.mpr c4
   have c4b1 : ((l0.length : Int) != 0) = false := bne_eq_false_iff_eq.mpr c4
   clear c4
   obtain rfl := Option.some.inj H
   go_enter Tryz.func30, Tryz.ntmps30
   go_wp2_with (first | ((with_reducible refine gate_callee (f := 22) rfl ?_); refine zG (some 6) Tryz.func22 #[.slice A0 l0.length c0] ?_; (with_reducible refine (spec_IsWord.calls k _ _ l0 true _ ?side1 ?side2 A2.out).mono ?_); (case side1 => exact zQ HR0.out); (case side2 => exact HC0.out); rintro e w' ⟨rfl, ⟨nd, rfl⟩⟩; refine ⟨_, rfl, ?_⟩))
   go_ret
   exact ⟨zr, zB HB.out⟩
  ·rw [if_neg c4] at H
   have c4b0 : ((l0.length : Int) == 0) = false := beq_eq_false_iff_ne.mpr c4
   have c4b1 : ((l0.length : Int) != 0) = true := bne_iff_ne.mpr c4
   have c4b2 : ¬ (l0 = []) := fun h_ => c4 (by rw [h_]; rfl)
   have H' := Aside0.mk H
   clear H
   go_enter Tryz.func30, Tryz.ntmps30
   go_wp2_with (first | ((with_reducible refine gate_callee (f := 22) rfl ?_); refine zG (some 6) Tryz.func22 #[.slice A0 l0.length c0] ?_; (with_reducible refine (spec_IsWord.calls k _ _ l0 true _ ?side1 ?side2 A2.out).mono ?_); (case side1 => exact zQ HR0.out); (case side2 => exact HC0.out); rintro e w' ⟨rfl, ⟨nd, rfl⟩⟩; refine ⟨_, rfl, ?_⟩))
   go_loopg [3, 4] k (fun kq v3 v4 w' => ∃ (x3_1 : ByteArray) (x4_1 : Int), v3 = .string x3_1 ∧ v4 = .int .i64 x4_1 ∧ Aside0 (spec_WordText.l0 kq l0 x3_1 x4_1 = some r) ∧ Aside0 (kq ≤ k) ∧ Aside0 (Below w.heap.size w w'))
   case atStart => exact ⟨((⟨#[]⟩ : ByteArray)), (0), zs, zs, H', ⟨Nat.le_refl _⟩, ⟨zB HB.out⟩⟩
   case round =>
    clear H'
    try clear c2
    try clear p2
    try clear c3
    try clear c4
    try clear c4b0
    try clear c4b1
    try clear c4b2
    obtain ⟨x3_1, x4_1, rfl, rfl, HA, HK1, HB⟩ := hrel
    cases gk with
    | zero => exact absurd HA.out (by simp [spec_WordText.l0])
    | succ k1 =>
     have H := HA.out
     clear HA
     simp only [spec_WordText.l0] at H
     by_cases c5 : x4_1 < (l0.length : Int)
     ·rw [if_pos c5] at H
      have c5b0 : decide (x4_1 < (l0.length : Int)) = true := decide_eq_true c5
      clear c5
      by_cases c6 : 0 ≤ x4_1
      ·rw [if_pos c6] at H
       have c6b0 : decide (0 ≤ x4_1) = true := decide_eq_true c6
       clear c6
       replace H := Option.bind_eq_some_iff.mp H
       obtain ⟨t446, A70, H⟩ := H
       replace H : (if x3_1.size + t446.size ≤ 9223372036854775807 then (spec_WordText.l0 k1 l0 (x3_1 ++ t446) (wrap64 (x4_1 + 1))) else (none)) = some r := H
       have A7 := Aside0.mk A70
       clear A70
       by_cases c8 : x3_1.size + t446.size ≤ 9223372036854775807
       ·rw [if_pos c8] at H
        have c8b0 := eq_true c8
        have c8b1 : decide (x3_1.size + t446.size ≤ 9223372036854775807) = true := decide_eq_true c8
        try have c8b2 : (9223372036854775807 < x3_1.size + t446.size) = False := eq_false (Nat.not_lt.2 c8)
        have H' := Aside0.mk H
        clear H
        have p445 : 0 ≤ (x4_1 : Int) := zd
        have q445 : x4_1 < (l0.length : Int) := zd
        obtain ⟨ad445, e445, hx445_0⟩ := Kd.at_int HR0.out x4_1 p445 q445
        cases e445
        replace hx445_0 := (HB.out.cell (World.block_lt_of_cell? w _ hx445_0)).trans hx445_0
        replace p445 := eq_true p445
        replace q445 := eq_true q445
        go_wp2_with (first | ((with_reducible refine gate_callee (f := 52) rfl ?_); refine zG (some 22) Tryz.func52 #[.int .i64 (rd l0 x4_1)] ?_; (with_reducible refine (spec_FormatInt.calls k1 (rd l0 x4_1) t446 _ A7.out).mono ?_); rintro e w9 ⟨rfl, hb⟩; refine ⟨_, rfl, ?_⟩; have n0_ := Aside0.mk (below_step (zB HB.out) hb); clear HB; have HB := n0_; clear n0_; (try clear hb); (try clear hb2); (try clear hk); (try clear hi)))
        go_roundg k1
        case measure => have := HK1.out; omega
        case rel => exact ⟨(x3_1 ++ t446), (wrap64 (x4_1 + 1)), zs, zs, H', ⟨by have := HK1.out; omega⟩, ⟨zB HB.out⟩⟩
       ·rw [if_neg c8] at H
        exact absurd H (by simp)
      ·rw [if_neg c6] at H
       exact absurd H (by simp)
     ·rw [if_neg c5] at H
      have c5b0 : decide (x4_1 < (l0.length : Int)) = false := decide_eq_false c5
      clear c5
      obtain rfl := Option.some.inj H
      go_wp2
      go_ret
      exact ⟨zr, zB HB.out⟩
 ·replace c3 := Bool.eq_false_iff.mpr c3
  subst c3
  have H1 : (some (⟨#[]⟩ : ByteArray)) = some r := by rw [if_neg (show ¬ (false = true) by decide)] at H; exact H
  clear H
  have H := H1
  clear H1
  obtain rfl := Option.some.inj H
  go_enter Tryz.func30, Tryz.ntmps30
  go_wp2_with (first | ((with_reducible refine gate_callee (f := 22) rfl ?_); refine zG (some 6) Tryz.func22 #[.slice A0 l0.length c0] ?_; (with_reducible refine (spec_IsWord.calls k _ _ l0 false _ ?side1 ?side2 A2.out).mono ?_); (case side1 => exact zQ HR0.out); (case side2 => exact HC0.out); rintro e w' ⟨rfl, ⟨nd, rfl⟩⟩; refine ⟨_, rfl, ?_⟩))
  go_ret
  exact ⟨zr, zB HB.out⟩

def spec_l1Pick.f (s0_0 : List Int) (s0_1 : Int) (s0_2 : Int) (l1 : List ByteArray) : Option (ByteArray × Int × Int) := (spec_l1Below.f s0_0 s0_1 s0_2 (l1.length : Int)).bind fun bt447 => (if 0 ≤ bt447.1 then (if bt447.1 < (l1.length : Int) then (some (rdOf ByteArray.empty l1 bt447.1, bt447.2.1, bt447.2.2)) else (none)) else (none))
set_option maxHeartbeats 8000000 in
set_option maxRecDepth 100000 in
theorem spec_l1Pick.calls (g : Nat) (s0_0 : List Int) (s0_1 : Int) (s0_2 : Int) (A1 : Option Addr) (c1 : Nat) (l1 : List ByteArray) (r1 : ByteArray) (r2 : Int) (r3 : Int) (w0 w : World) (hI : IsS67 w0 w g s0_0 s0_1 s0_2) (hB : Below w0.heap.size w0 w) (hr1 : Kd.C Kd.string w A1 l1.length l1) (hc1 : l1.length ≤ c1) (hf1 : ∀ ad, A1 = some ad → 0 < l1.length → ad.block ≠ g) (h : spec_l1Pick.f s0_0 s0_1 s0_2 l1 = some (r1, r2, r3)) :
  Calls Tryz.prog 58 #[.pointer (some ⟨g, 0, none⟩), .slice A1 l1.length c1] w fun e w' => e = .returned (.string r1) ∧ IsS67 w0 w' g s0_0 r2 r3 ∧ Below w0.heap.size w0 w' ∧ KeepBut w w' g none := by
 have HR1 := Aside0.mk hr1
 have HC1 := Aside0.mk hc1
 clear hr1 hc1
 have HI0 := Aside0.mk hI
 have HK := Aside0.mk (KeepBut.refl w g none)
 have HL := Aside0.mk hB.size
 clear hI
 have HW0 := Aside0.mk hB.size
 have HB := Aside0.mk hB
 clear hB
 have H : ((spec_l1Below.f s0_0 s0_1 s0_2 (l1.length : Int)).bind fun bt447 => (if 0 ≤ bt447.1 then (if bt447.1 < (l1.length : Int) then (some (rdOf ByteArray.empty l1 bt447.1, bt447.2.1, bt447.2.2)) else (none)) else (none))) = some (r1, r2, r3) := h
 clear h
 replace H := Option.bind_eq_some_iff.mp H
 obtain ⟨⟨t447, t448, t449⟩, A30, H⟩ := H
 replace H : (if 0 ≤ t447 then (if t447 < (l1.length : Int) then (some (rdOf ByteArray.empty l1 t447, t448, t449)) else (none)) else (none)) = some (r1, r2, r3) := H
 have A3 := Aside0.mk A30
 clear A30
 by_cases c4 : 0 ≤ t447
 ·rw [if_pos c4] at H
  have c4b0 : decide (0 ≤ t447) = true := decide_eq_true c4
  clear c4
  by_cases c5 : t447 < (l1.length : Int)
  ·rw [if_pos c5] at H
   have c5b0 : decide (t447 < (l1.length : Int)) = true := decide_eq_true c5
   clear c5
   simp only [Option.some.injEq, Prod.mk.injEq] at H
   obtain ⟨rfl, rfl, rfl⟩ := H
   go_enter Tryz.func58, Tryz.ntmps58
   go_wp2_with (first | ((with_reducible refine gate_callee (f := 36) rfl ?_); refine zG (some 9) Tryz.func36 #[.pointer (some ⟨g, 0, none⟩), .int .i64 (l1.length : Int)] ?_; (with_reducible refine (spec_l1Below.calls g s0_0 s0_1 s0_2 (l1.length : Int) t447 t448 t449 w0 _ ?side1 ?side2 A3.out).mono ?_); (case side1 => exact zI67 HI0.out); (case side2 => exact zB1 HB.out (IsS67.ge HI0.out)); rintro e w6 ⟨rfl, hi, hb, hk⟩; refine ⟨_, rfl, ?_⟩; have n0_ := Aside0.mk (KeepBut.trans (zK HK.out) hk (.inl rfl)); have n1_ := Aside0.mk (hb); have n2_ := Aside0.mk (hi); clear HK; clear HB; clear HI0; have HK := n0_; have HB := n1_; have HI0 := n2_; clear n0_ n1_ n2_; (try clear hb); (try clear hb2); (try clear hk); (try clear hi); have p450 : 0 ≤ (t447 : Int) := zd; have q450 : t447 < (l1.length : Int) := zd; obtain ⟨ad450, e450, hx450_0⟩ := Kd.at_string HR1.out t447 p450 q450; cases e450; replace hx450_0 := keep_cell HK.out hx450_0 (by first | (rw [add_block]; exact hf1 _ rfl (by omega)) | exact hf1 _ rfl (by omega) | exact hf1 ad450 rfl (by omega)); replace p450 := eq_true p450; replace q450 := eq_true q450))
   go_ret
   exact ⟨zr, zI67 HI0.out, zB1 HB.out (IsS67.ge HI0.out), zK HK.out⟩
  ·rw [if_neg c5] at H
   exact absurd H (by simp)
 ·rw [if_neg c4] at H
  exact absurd H (by simp)

def spec_l1Turned.f (s0_0 : List Int) (s0_1 : Int) (s0_2 : Int) (a1 : ByteArray) (l2 : List ByteArray) : Option (ByteArray × Int × Int) := (spec_l1Below.f s0_0 s0_1 s0_2 (wrap64 ((a1.size : Int) + 1))).bind fun bt451 => ((spec_l1Below.f s0_0 bt451.2.1 bt451.2.2 6).bind fun bt454 => (if bt454.1 = 0 then (if 0 ≤ bt451.1 then (if bt451.1 ≤ (a1.size : Int) then ((spec_l1Pick.f s0_0 bt454.2.1 bt454.2.2 l2).bind fun bt457 => (if (a1.extract 0 (bt451.1 : Int).toNat).size + bt457.1.size ≤ 9223372036854775807 then (if ((a1.extract 0 (bt451.1 : Int).toNat) ++ bt457.1).size + (a1.extract (bt451.1 : Int).toNat a1.size).size ≤ 9223372036854775807 then (some (((a1.extract 0 (bt451.1 : Int).toNat) ++ bt457.1) ++ (a1.extract (bt451.1 : Int).toNat a1.size), bt457.2.1, bt457.2.2)) else (none)) else (none))) else (none)) else (none)) else (if bt454.1 = 1 then (if 0 ≤ bt451.1 then (if bt451.1 ≤ (a1.size : Int) then (some (a1.extract 0 (bt451.1 : Int).toNat, bt454.2.1, bt454.2.2)) else (none)) else (none)) else (some (a1, bt454.2.1, bt454.2.2)))))
def spec_l1Turned.T4 : Bool × List (List Nat × List Nat) := (true, [([], []), ([], []), ([0, 1], [0, 1]), ([], []), ([], []), ([3, 4], [3, 4]), ([2, 5], [2, 5]), ([], []), ([], []), ([7, 8], [7, 8]), ([6, 9], [6, 9]), ([10, 5, 0, 1, 2, 3, 4, 5, 6, 7, 8, 9, 10], [10])])
def spec_l1Turned.B4 : List Nat := [0, 0, 3, 0, 0, 24, 63, 0, 0, 384, 1023, 2047]
theorem spec_l1Turned.tab4 : rtab .any (opsOf Tryz.f41 4) = spec_l1Turned.T4 := by kernel_rfl
theorem spec_l1Turned.bits4 : waitsOk spec_l1Turned.T4.2 spec_l1Turned.B4 = true := by kernel_rfl
set_option maxHeartbeats 8000000 in
set_option maxRecDepth 100000 in
theorem spec_l1Turned.calls (g : Nat) (s0_0 : List Int) (s0_1 : Int) (s0_2 : Int) (a1 : ByteArray) (A2 : Option Addr) (c2 : Nat) (l2 : List ByteArray) (r1 : ByteArray) (r2 : Int) (r3 : Int) (w0 w : World) (hI : IsS67 w0 w g s0_0 s0_1 s0_2) (hB : Below w0.heap.size w0 w) (hr2 : Kd.C Kd.string w A2 l2.length l2) (hc2 : l2.length ≤ c2) (hf2 : ∀ ad, A2 = some ad → 0 < l2.length → ad.block ≠ g) (h : spec_l1Turned.f s0_0 s0_1 s0_2 a1 l2 = some (r1, r2, r3)) :
  Calls Tryz.prog 41 #[.pointer (some ⟨g, 0, none⟩), .string a1, .slice A2 l2.length c2] w fun e w' => e = .returned (.string r1) ∧ IsS67 w0 w' g s0_0 r2 r3 ∧ Below w0.heap.size w0 w' ∧ KeepBut w w' g none := by
 have HR2 := Aside0.mk hr2
 have HC2 := Aside0.mk hc2
 clear hr2 hc2
 have HI0 := Aside0.mk hI
 have HK := Aside0.mk (KeepBut.refl w g none)
 have HL := Aside0.mk hB.size
 clear hI
 have HW0 := Aside0.mk hB.size
 have HB := Aside0.mk hB
 clear hB
 have H : ((spec_l1Below.f s0_0 s0_1 s0_2 (wrap64 ((a1.size : Int) + 1))).bind fun bt451 => ((spec_l1Below.f s0_0 bt451.2.1 bt451.2.2 6).bind fun bt454 => (if bt454.1 = 0 then (if 0 ≤ bt451.1 then (if bt451.1 ≤ (a1.size : Int) then ((spec_l1Pick.f s0_0 bt454.2.1 bt454.2.2 l2).bind fun bt457 => (if (a1.extract 0 (bt451.1 : Int).toNat).size + bt457.1.size ≤ 9223372036854775807 then (if ((a1.extract 0 (bt451.1 : Int).toNat) ++ bt457.1).size + (a1.extract (bt451.1 : Int).toNat a1.size).size ≤ 9223372036854775807 then (some (((a1.extract 0 (bt451.1 : Int).toNat) ++ bt457.1) ++ (a1.extract (bt451.1 : Int).toNat a1.size), bt457.2.1, bt457.2.2)) else (none)) else (none))) else (none)) else (none)) else (if bt454.1 = 1 then (if 0 ≤ bt451.1 then (if bt451.1 ≤ (a1.size : Int) then (some (a1.extract 0 (bt451.1 : Int).toNat, bt454.2.1, bt454.2.2)) else (none)) else (none)) else (some (a1, bt454.2.1, bt454.2.2)))))) = some (r1, r2, r3) := h
 clear h
 replace H := Option.bind_eq_some_iff.mp H
 obtain ⟨⟨t451, t452, t453⟩, A40, H⟩ := H
 replace H : ((spec_l1Below.f s0_0 t452 t453 6).bind fun bt454 => (if bt454.1 = 0 then (if 0 ≤ t451 then (if t451 ≤ (a1.size : Int) then ((spec_l1Pick.f s0_0 bt454.2.1 bt454.2.2 l2).bind fun bt457 => (if (a1.extract 0 (t451 : Int).toNat).size + bt457.1.size ≤ 9223372036854775807 then (if ((a1.extract 0 (t451 : Int).toNat) ++ bt457.1).size + (a1.extract (t451 : Int).toNat a1.size).size ≤ 9223372036854775807 then (some (((a1.extract 0 (t451 : Int).toNat) ++ bt457.1) ++ (a1.extract (t451 : Int).toNat a1.size), bt457.2.1, bt457.2.2)) else (none)) else (none))) else (none)) else (none)) else (if bt454.1 = 1 then (if 0 ≤ t451 then (if t451 ≤ (a1.size : Int) then (some (a1.extract 0 (t451 : Int).toNat, bt454.2.1, bt454.2.2)) else (none)) else (none)) else (some (a1, bt454.2.1, bt454.2.2))))) = some (r1, r2, r3) := H
 have A4 := Aside0.mk A40
 clear A40
 replace H := Option.bind_eq_some_iff.mp H
 obtain ⟨⟨t454, t455, t456⟩, A50, H⟩ := H
 replace H : (if t454 = 0 then (if 0 ≤ t451 then (if t451 ≤ (a1.size : Int) then ((spec_l1Pick.f s0_0 t455 t456 l2).bind fun bt457 => (if (a1.extract 0 (t451 : Int).toNat).size + bt457.1.size ≤ 9223372036854775807 then (if ((a1.extract 0 (t451 : Int).toNat) ++ bt457.1).size + (a1.extract (t451 : Int).toNat a1.size).size ≤ 9223372036854775807 then (some (((a1.extract 0 (t451 : Int).toNat) ++ bt457.1) ++ (a1.extract (t451 : Int).toNat a1.size), bt457.2.1, bt457.2.2)) else (none)) else (none))) else (none)) else (none)) else (if t454 = 1 then (if 0 ≤ t451 then (if t451 ≤ (a1.size : Int) then (some (a1.extract 0 (t451 : Int).toNat, t455, t456)) else (none)) else (none)) else (some (a1, t455, t456)))) = some (r1, r2, r3) := H
 have A5 := Aside0.mk A50
 clear A50
 by_cases c6 : t454 = 0
 ·rw [if_pos c6] at H
  have c6b0 : (t454 == 0) = true := beq_iff_eq.mpr c6
  have c6b1 : (t454 != 0) = false := bne_eq_false_iff_eq.mpr c6
  clear c6
  by_cases c7 : 0 ≤ t451
  ·rw [if_pos c7] at H
   have c7b0 := eq_true c7
   have c7b1 : decide (0 ≤ t451) = true := decide_eq_true c7
   clear c7
   by_cases c8 : t451 ≤ (a1.size : Int)
   ·rw [if_pos c8] at H
    have c8b0 := eq_true c8
    have c8b1 : decide (t451 ≤ (a1.size : Int)) = true := decide_eq_true c8
    clear c8
    replace H := Option.bind_eq_some_iff.mp H
    obtain ⟨⟨t457, t458, t459⟩, A90, H⟩ := H
    replace H : (if (a1.extract 0 (t451 : Int).toNat).size + t457.size ≤ 9223372036854775807 then (if ((a1.extract 0 (t451 : Int).toNat) ++ t457).size + (a1.extract (t451 : Int).toNat a1.size).size ≤ 9223372036854775807 then (some (((a1.extract 0 (t451 : Int).toNat) ++ t457) ++ (a1.extract (t451 : Int).toNat a1.size), t458, t459)) else (none)) else (none)) = some (r1, r2, r3) := H
    have A9 := Aside0.mk A90
    clear A90
    by_cases c10 : (a1.extract 0 (t451 : Int).toNat).size + t457.size ≤ 9223372036854775807
    ·rw [if_pos c10] at H
     have c10b0 := eq_true c10
     have c10b1 : decide ((a1.extract 0 (t451 : Int).toNat).size + t457.size ≤ 9223372036854775807) = true := decide_eq_true c10
     try have c10b2 : (9223372036854775807 < (a1.extract 0 (t451 : Int).toNat).size + t457.size) = False := eq_false (Nat.not_lt.2 c10)
     have c10e : (a1.extract 0 (t451 : Int).toNat).size = t451.toNat := (by have h8_ := of_decide_eq_true c8b1; rw [ByteArray.size_extract]; omega)
     have c10b3 : (9223372036854775807 < t451.toNat + t457.size) = False := (by have h_ := c10; rw [c10e] at h_; exact eq_false (Nat.not_lt.2 h_))
     have c11b0 := eq_true (zd : 0 ≤ t451)
     have c12b0 := eq_true (zd : t451 ≤ (a1.size : Int))
     by_cases c13 : ((a1.extract 0 (t451 : Int).toNat) ++ t457).size + (a1.extract (t451 : Int).toNat a1.size).size ≤ 9223372036854775807
     ·rw [if_pos c13] at H
      have c13b0 := eq_true c13
      have c13b1 : decide (((a1.extract 0 (t451 : Int).toNat) ++ t457).size + (a1.extract (t451 : Int).toNat a1.size).size ≤ 9223372036854775807) = true := decide_eq_true c13
      try have c13b2 : (9223372036854775807 < ((a1.extract 0 (t451 : Int).toNat) ++ t457).size + (a1.extract (t451 : Int).toNat a1.size).size) = False := eq_false (Nat.not_lt.2 c13)
      have c13b3 : (9223372036854775807 < t451.toNat + t457.size + (a1.size - t451.toNat)) = False := (by have h_ := c13; rw [ByteArray.size_append, c10e, ByteArray.size_extract, Nat.min_self] at h_; exact eq_false (Nat.not_lt.2 h_))
      simp only [Option.some.injEq, Prod.mk.injEq] at H
      obtain ⟨rfl, rfl, rfl⟩ := H
      go_enter Tryz.func41, Tryz.ntmps41
      try go_wp2_with (first | ((with_reducible refine gate_callee (f := 36) rfl ?_); refine zG (some 12) Tryz.func36 #[.pointer (some ⟨g, 0, none⟩), .int .i64 (wrap64 ((a1.size : Int) + 1))] ?_; (with_reducible refine (spec_l1Below.calls g s0_0 s0_1 s0_2 (wrap64 ((a1.size : Int) + 1)) t451 t452 t453 w0 _ ?side1 ?side2 A4.out).mono ?_); (case side1 => exact zI67 HI0.out); (case side2 => exact zB1 HB.out (IsS67.ge HI0.out)); rintro e w14 ⟨rfl, hi, hb, hk⟩; refine ⟨_, rfl, ?_⟩; have n0_ := Aside0.mk (KeepBut.trans (zK HK.out) hk (.inl rfl)); have n1_ := Aside0.mk (hb); have n2_ := Aside0.mk (hi); clear HK; clear HB; clear HI0; have HK := n0_; have HB := n1_; have HI0 := n2_; clear n0_ n1_ n2_; (try clear hb); (try clear hb2); (try clear hk); (try clear hi)) | ((with_reducible refine gate_callee (f := 36) rfl ?_); refine zG (some 14) Tryz.func36 #[.pointer (some ⟨g, 0, none⟩), .int .i64 6] ?_; (with_reducible refine (spec_l1Below.calls g s0_0 t452 t453 6 t454 t455 t456 w0 _ ?side1 ?side2 A5.out).mono ?_); (case side1 => exact zI67 HI0.out); (case side2 => exact zB1 HB.out (IsS67.ge HI0.out)); rintro e w15 ⟨rfl, hi, hb, hk⟩; refine ⟨_, rfl, ?_⟩; have n0_ := Aside0.mk (KeepBut.trans (zK HK.out) hk (.inl rfl)); have n1_ := Aside0.mk (hb); have n2_ := Aside0.mk (hi); clear HK; clear HB; clear HI0; have HK := n0_; have HB := n1_; have HI0 := n2_; clear n0_ n1_ n2_; (try clear hb); (try clear hb2); (try clear hk); (try clear hi)))
      have n0_ := Aside0.mk (IsS67.drew HI0.out)
      have n1_ := Aside0.mk (keep_drew HK.out)
      have n2_ := Aside0.mk (below_drew1 HB.out)
      clear HI0
      clear HK
      clear HB
      have HI0 := n0_
      have HK := n1_
      have HB := n2_
      clear n0_ n1_ n2_
      refine start_ (n := 12) (S := fun w' => True) (ds := []) #[false, false, false, false, false, false, false, false, false, false, false, false] (by kernel_rfl) rfl rfl trivial (fun hHeld => ?_); refine with_tabW spec_l1Turned.tab4 spec_l1Turned.bits4 (fun HT_ HW_ => ?_)
      generalize w15.drew = w16 at HI0 HK HB hHeld ⊢
      refine zP (i := 0) (N := some 17) #[true, false, false, false, false, false, false, false, false, false, false, false] (any_of HT_.out (by kernel_rfl)) ?_
      refine zP (i := 1) (N := some 18) #[true, true, false, false, false, false, false, false, false, false, false, false] (any_of HT_.out (by kernel_rfl)) ?_
      refine zP (i := 2) (N := some 19) #[true, true, true, false, false, false, false, false, false, false, false, false] (any_of HT_.out (by kernel_rfl)) ?_
      refine zP (i := 3) (N := some 20) #[true, true, true, true, false, false, false, false, false, false, false, false] (any_of HT_.out (by kernel_rfl)) ?_
      refine zP (i := 4) (N := some 21) #[true, true, true, true, true, false, false, false, false, false, false, false] (any_of HT_.out (by kernel_rfl)) ?_
      refine zP (i := 7) (N := some 24) #[true, true, true, true, true, false, false, true, false, false, false, false] (any_of HT_.out (by kernel_rfl)) ?_
      refine zP (i := 8) (N := some 25) #[true, true, true, true, true, false, false, true, true, false, false, false] (any_of HT_.out (by kernel_rfl)) ?_
      refine zP (i := 9) (N := some 26) #[true, true, true, true, true, false, false, true, true, true, false, false] (any_of HT_.out (by kernel_rfl)) ?_
      refine one_ (i := 5) (N := some 22) #[true, true, true, true, true, true, false, true, true, true, false, false] rfl rfl (one_of HT_.out (by kernel_rfl)) (by decide) (fun K hK => ?_)
      refine zC Tryz.func58 #[.pointer (some ⟨g, 0, none⟩), .slice A2 l2.length c2] ?_
      with_reducible refine (spec_l1Pick.calls g s0_0 t455 t456 _ _ l2 t457 t458 t459 w0 _ ?side1 ?side2 ?side3 ?side4 ?side5 A9.out).mono ?_
      (case side1 => exact zI67 HI0.out)
      (case side2 => exact zB1 HB.out (IsS67.ge HI0.out))
      (case side3 => exact Kd.C_keep (⟨#[]⟩ : ByteArray) HR2.out (zK HK.out) hf2)
      (case side4 => exact HC2.out)
      (case side5 => exact hf2)
      rintro e w17 ⟨rfl, hi, hb, hk⟩
      refine ⟨_, rfl, ?_⟩
      have n0_ := Aside0.mk (KeepBut.trans (zK HK.out) hk (.inl rfl))
      have n1_ := Aside0.mk (hb)
      have n2_ := Aside0.mk (hi)
      clear HK
      clear HB
      clear HI0
      have HK := n0_
      have HB := n1_
      have HI0 := n2_
      clear n0_ n1_ n2_
      (try clear hb)
      (try clear hb2)
      (try clear hk)
      (try clear hi)
      refine hK.out _ _ trivial (fun hHeld => ?_)
      clear hK K
      refine zM (some 22) ?_
      refine zP (i := 6) (N := some 23) #[true, true, true, true, true, true, true, true, true, true, false, false] (any_of HT_.out (by kernel_rfl)) ?_
      refine zP (i := 10) (N := some 27) #[true, true, true, true, true, true, true, true, true, true, true, false] (any_of HT_.out (by kernel_rfl)) ?_
      refine zP (i := 11) (N := some 6) #[true, true, true, true, true, true, true, true, true, true, true, true] (any_of HT_.out (by kernel_rfl)) ?_
      refine done_ (done_of HT_.out (by kernel_rfl)) ?_
      try go_wp2
      go_ret
      exact ⟨zr, zI67 HI0.out, zB1 HB.out (IsS67.ge HI0.out), zK HK.out⟩
     ·rw [if_neg c13] at H
      exact absurd H (by simp)
    ·rw [if_neg c10] at H
     exact absurd H (by simp)
   ·rw [if_neg c8] at H
    exact absurd H (by simp)
  ·rw [if_neg c7] at H
   exact absurd H (by simp)
 ·rw [if_neg c6] at H
  have c6b0 : (t454 == 0) = false := beq_eq_false_iff_ne.mpr c6
  have c6b1 : (t454 != 0) = true := bne_iff_ne.mpr c6
  by_cases c18 : t454 = 1
  ·rw [if_pos c18] at H
   have c18b0 : (t454 == 1) = true := beq_iff_eq.mpr c18
   have c18b1 : (t454 != 1) = false := bne_eq_false_iff_eq.mpr c18
   clear c18
   by_cases c19 : 0 ≤ t451
   ·rw [if_pos c19] at H
    have c19b0 := eq_true c19
    have c19b1 : decide (0 ≤ t451) = true := decide_eq_true c19
    clear c19
    by_cases c20 : t451 ≤ (a1.size : Int)
    ·rw [if_pos c20] at H
     have c20b0 := eq_true c20
     have c20b1 : decide (t451 ≤ (a1.size : Int)) = true := decide_eq_true c20
     clear c20
     simp only [Option.some.injEq, Prod.mk.injEq] at H
     obtain ⟨rfl, rfl, rfl⟩ := H
     go_enter Tryz.func41, Tryz.ntmps41
     go_wp2_with (first | ((with_reducible refine gate_callee (f := 36) rfl ?_); refine zG (some 12) Tryz.func36 #[.pointer (some ⟨g, 0, none⟩), .int .i64 (wrap64 ((a1.size : Int) + 1))] ?_; (with_reducible refine (spec_l1Below.calls g s0_0 s0_1 s0_2 (wrap64 ((a1.size : Int) + 1)) t451 t452 t453 w0 _ ?side1 ?side2 A4.out).mono ?_); (case side1 => exact zI67 HI0.out); (case side2 => exact zB1 HB.out (IsS67.ge HI0.out)); rintro e w21 ⟨rfl, hi, hb, hk⟩; refine ⟨_, rfl, ?_⟩; have n0_ := Aside0.mk (KeepBut.trans (zK HK.out) hk (.inl rfl)); have n1_ := Aside0.mk (hb); have n2_ := Aside0.mk (hi); clear HK; clear HB; clear HI0; have HK := n0_; have HB := n1_; have HI0 := n2_; clear n0_ n1_ n2_; (try clear hb); (try clear hb2); (try clear hk); (try clear hi)) | ((with_reducible refine gate_callee (f := 36) rfl ?_); refine zG (some 14) Tryz.func36 #[.pointer (some ⟨g, 0, none⟩), .int .i64 6] ?_; (with_reducible refine (spec_l1Below.calls g s0_0 t452 t453 6 t454 t455 t456 w0 _ ?side1 ?side2 A5.out).mono ?_); (case side1 => exact zI67 HI0.out); (case side2 => exact zB1 HB.out (IsS67.ge HI0.out)); rintro e w22 ⟨rfl, hi, hb, hk⟩; refine ⟨_, rfl, ?_⟩; have n0_ := Aside0.mk (KeepBut.trans (zK HK.out) hk (.inl rfl)); have n1_ := Aside0.mk (hb); have n2_ := Aside0.mk (hi); clear HK; clear HB; clear HI0; have HK := n0_; have HB := n1_; have HI0 := n2_; clear n0_ n1_ n2_; (try clear hb); (try clear hb2); (try clear hk); (try clear hi)))
     go_ret
     exact ⟨zr, zI67 HI0.out, zB1 HB.out (IsS67.ge HI0.out), zK HK.out⟩
    ·rw [if_neg c20] at H
     exact absurd H (by simp)
   ·rw [if_neg c19] at H
    exact absurd H (by simp)
  ·rw [if_neg c18] at H
   have c18b0 : (t454 == 1) = false := beq_eq_false_iff_ne.mpr c18
   have c18b1 : (t454 != 1) = true := bne_iff_ne.mpr c18
   simp only [Option.some.injEq, Prod.mk.injEq] at H
   obtain ⟨rfl, rfl, rfl⟩ := H
   go_enter Tryz.func41, Tryz.ntmps41
   go_wp2_with (first | ((with_reducible refine gate_callee (f := 36) rfl ?_); refine zG (some 12) Tryz.func36 #[.pointer (some ⟨g, 0, none⟩), .int .i64 (wrap64 ((a1.size : Int) + 1))] ?_; (with_reducible refine (spec_l1Below.calls g s0_0 s0_1 s0_2 (wrap64 ((a1.size : Int) + 1)) t451 t452 t453 w0 _ ?side1 ?side2 A4.out).mono ?_); (case side1 => exact zI67 HI0.out); (case side2 => exact zB1 HB.out (IsS67.ge HI0.out)); rintro e w23 ⟨rfl, hi, hb, hk⟩; refine ⟨_, rfl, ?_⟩; have n0_ := Aside0.mk (KeepBut.trans (zK HK.out) hk (.inl rfl)); have n1_ := Aside0.mk (hb); have n2_ := Aside0.mk (hi); clear HK; clear HB; clear HI0; have HK := n0_; have HB := n1_; have HI0 := n2_; clear n0_ n1_ n2_; (try clear hb); (try clear hb2); (try clear hk); (try clear hi)) | ((with_reducible refine gate_callee (f := 36) rfl ?_); refine zG (some 14) Tryz.func36 #[.pointer (some ⟨g, 0, none⟩), .int .i64 6] ?_; (with_reducible refine (spec_l1Below.calls g s0_0 t452 t453 6 t454 t455 t456 w0 _ ?side1 ?side2 A5.out).mono ?_); (case side1 => exact zI67 HI0.out); (case side2 => exact zB1 HB.out (IsS67.ge HI0.out)); rintro e w24 ⟨rfl, hi, hb, hk⟩; refine ⟨_, rfl, ?_⟩; have n0_ := Aside0.mk (KeepBut.trans (zK HK.out) hk (.inl rfl)); have n1_ := Aside0.mk (hb); have n2_ := Aside0.mk (hi); clear HK; clear HB; clear HI0; have HK := n0_; have HB := n1_; have HI0 := n2_; clear n0_ n1_ n2_; (try clear hb); (try clear hb2); (try clear hk); (try clear hi)))
   go_ret
   exact ⟨zr, zI67 HI0.out, zB1 HB.out (IsS67.ge HI0.out), zK HK.out⟩

def spec_DrawParseWord.f (k : Nat) (l0 : List Int) : Option (ByteArray) := (spec_l1New.f k l0).bind fun bt460 => ((spec_l8Word.f k bt460.1 bt460.2.1 bt460.2.2).bind fun bt464 => ((spec_WordText.f k bt464.1).bind fun t469 => ((spec_l1Turned.f bt460.1 bt464.2.1 bt464.2.2 t469 (([(⟨#[49]⟩ : ByteArray), (⟨#[48]⟩ : ByteArray), (⟨#[45]⟩ : ByteArray), (⟨#[57]⟩ : ByteArray)] : List ByteArray))).bind fun bt473 => (some bt473.1))))
set_option maxHeartbeats 8000000 in
set_option maxRecDepth 100000 in
theorem spec_DrawParseWord.calls (k : Nat) (A0 : Option Addr) (c0 : Nat) (l0 : List Int) (r : ByteArray) (w : World) (hr0 : Kd.C (Kd.int .u8) w A0 l0.length l0) (hc0 : l0.length ≤ c0) (h : spec_DrawParseWord.f k l0 = some r) :
  Calls Tryz.prog 12 #[.slice A0 l0.length c0] w fun e w' => e = .returned (.string r) ∧ Below w.heap.size w w' := by
 have HR0 := Aside0.mk hr0
 have HC0 := Aside0.mk hc0
 clear hr0 hc0
 have HB := Aside0.mk (Below.refl w.heap.size w)
 have H : ((spec_l1New.f k l0).bind fun bt460 => ((spec_l8Word.f k bt460.1 bt460.2.1 bt460.2.2).bind fun bt464 => ((spec_WordText.f k bt464.1).bind fun t469 => ((spec_l1Turned.f bt460.1 bt464.2.1 bt464.2.2 t469 (([(⟨#[49]⟩ : ByteArray), (⟨#[48]⟩ : ByteArray), (⟨#[45]⟩ : ByteArray), (⟨#[57]⟩ : ByteArray)] : List ByteArray))).bind fun bt473 => (some bt473.1))))) = some r := h
 clear h
 replace H := Option.bind_eq_some_iff.mp H
 obtain ⟨⟨t460, t461, t462⟩, A20, H⟩ := H
 replace H : ((spec_l8Word.f k t460 t461 t462).bind fun bt464 => ((spec_WordText.f k bt464.1).bind fun t469 => ((spec_l1Turned.f t460 bt464.2.1 bt464.2.2 t469 (([(⟨#[49]⟩ : ByteArray), (⟨#[48]⟩ : ByteArray), (⟨#[45]⟩ : ByteArray), (⟨#[57]⟩ : ByteArray)] : List ByteArray))).bind fun bt473 => (some bt473.1)))) = some r := H
 have A2 := Aside0.mk A20
 clear A20
 replace H := Option.bind_eq_some_iff.mp H
 obtain ⟨⟨t464, t467, t468⟩, A30, H⟩ := H
 replace H : ((spec_WordText.f k t464).bind fun t469 => ((spec_l1Turned.f t460 t467 t468 t469 (([(⟨#[49]⟩ : ByteArray), (⟨#[48]⟩ : ByteArray), (⟨#[45]⟩ : ByteArray), (⟨#[57]⟩ : ByteArray)] : List ByteArray))).bind fun bt473 => (some bt473.1))) = some r := H
 have A3 := Aside0.mk A30
 clear A30
 replace H := Option.bind_eq_some_iff.mp H
 obtain ⟨t469, A40, H⟩ := H
 replace H : ((spec_l1Turned.f t460 t467 t468 t469 (([(⟨#[49]⟩ : ByteArray), (⟨#[48]⟩ : ByteArray), (⟨#[45]⟩ : ByteArray), (⟨#[57]⟩ : ByteArray)] : List ByteArray))).bind fun bt473 => (some bt473.1)) = some r := H
 have A4 := Aside0.mk A40
 clear A40
 obtain ⟨y470, hy470⟩ : ∃ y_ : List ByteArray, y_ = (([(⟨#[49]⟩ : ByteArray), (⟨#[48]⟩ : ByteArray), (⟨#[45]⟩ : ByteArray), (⟨#[57]⟩ : ByteArray)] : List ByteArray)) := ⟨_, rfl⟩
 replace H : ((spec_l1Turned.f t460 t467 t468 t469 y470).bind fun bt473 => (some bt473.1)) = some r := zY hy470 H
 have Ny470 := Aside0.mk hy470
 clear hy470
 replace H := Option.bind_eq_some_iff.mp H
 obtain ⟨⟨t473, t474, t475⟩, A50, H⟩ := H
 replace H : (some t473) = some r := H
 have A5 := Aside0.mk A50
 clear A50
 obtain rfl := Option.some.inj H
 go_enter Tryz.func12, Tryz.ntmps12
 go_wp2_with (first | ((with_reducible refine gate_callee (f := 32) rfl ?_); refine zG (some 5) Tryz.func32 #[.slice A0 l0.length c0] ?_; (with_reducible refine (spec_l1New.calls k _ _ l0 t460 t461 t462 w _ ?side1 ?side2 ?side3 A2.out).mono ?_); (case side1 => exact zB HB.out); (case side2 => exact HR0.out); (case side3 => exact HC0.out); rintro e w6 ⟨g463, rfl, hi, hb, hb2⟩; refine ⟨_, rfl, ?_⟩; have n0_ := Aside0.mk (hb); have n1_ := Aside0.mk (hi); clear HB; have HB := n0_; have HI463 := n1_; clear n0_ n1_; (try clear hb); (try clear hb2); (try clear hk); (try clear hi)) | ((with_reducible refine gate_callee (f := 42) rfl ?_); refine zG (some 8) Tryz.func42 #[.pointer (some ⟨g463, 0, none⟩)] ?_; (with_reducible refine (spec_l8Word.calls k g463 t460 t461 t462 t464 t467 t468 w _ ?side1 ?side2 A3.out).mono ?_); (case side1 => exact zI67 HI463.out); (case side2 => exact zB1 HB.out (IsS67.ge HI463.out)); rintro e w7 ⟨v465, rfl, ho0, hi, hb, hk⟩; refine ⟨_, rfl, ?_⟩; have n0_ := Aside0.mk (Kd.R_lower ho0 (below_size (zB1 HB.out (IsS67.ge HI463.out)))); have n1_ := Aside0.mk (hb); have n2_ := Aside0.mk (hi); clear HB; clear HI463; have HO466 := n0_; have HB := n1_; have HI463 := n2_; clear n0_ n1_ n2_; (try clear hb); (try clear hb2); (try clear hk); (try clear hi); (try clear ho0); obtain ⟨Ao8, co8, eo8⟩ := Kd.R_slice HO466.out; subst eo8) | ((with_reducible refine gate_callee (f := 30) rfl ?_); refine zG (some 9) Tryz.func30 #[.slice Ao8 t464.length co8] ?_; (with_reducible refine (spec_WordText.calls k _ _ t464 t469 _ ?side1 ?side2 A4.out).mono ?_); (case side1 => exact zQ (Kd.R_reads' HO466.out).2.2); (case side2 => exact (Kd.R_reads' HO466.out).2.1); rintro e w9 ⟨rfl, hb⟩; refine ⟨_, rfl, ?_⟩; have n0_ := Aside0.mk (Kd.R_below (zR HO466.out) hb); have n1_ := Aside0.mk (IsS67.below (zI67 HI463.out) hb); have n2_ := Aside0.mk (below_step (zB1 HB.out (IsS67.ge HI463.out)) hb); clear HO466; clear HI463; clear HB; have HO466 := n0_; have HI463 := n1_; have HB := n2_; clear n0_ n1_ n2_; (try clear hb); (try clear hb2); (try clear hk); (try clear hi)) | ((with_reducible refine gate_dst (N := 10) rfl ?_); refine Kd.R_lit Kd.string _ 9 ?hg (N := 10) ?hd (xs := ([(⟨#[49]⟩ : ByteArray), (⟨#[48]⟩ : ByteArray), (⟨#[45]⟩ : ByteArray), (⟨#[57]⟩ : ByteArray)] : List ByteArray)) (inner := [.string (⟨#[49]⟩ : ByteArray), .string (⟨#[48]⟩ : ByteArray), .string (⟨#[45]⟩ : ByteArray), .string (⟨#[57]⟩ : ByteArray)]) (ok := fun _ => True) (okp := fun _ => True) ?hr ?hp (fun _ hk => hk) trivial (Below.refl _ _) (Nat.le_refl _) (by simp) ?_; (case hd => rfl); (case hg => rfl); (case hr => first | (go_simp; done) | (go_simp; rfl)); (case hp => exact (Reps.one (show Kd.M Kd.string _ _ _ (⟨#[49]⟩ : ByteArray) [.string (⟨#[49]⟩ : ByteArray)] from rfl) (Reps.one (show Kd.M Kd.string _ _ _ (⟨#[48]⟩ : ByteArray) [.string (⟨#[48]⟩ : ByteArray)] from rfl) (Reps.one (show Kd.M Kd.string _ _ _ (⟨#[45]⟩ : ByteArray) [.string (⟨#[45]⟩ : ByteArray)] from rfl) (Reps.one (show Kd.M Kd.string _ _ _ (⟨#[57]⟩ : ByteArray) [.string (⟨#[57]⟩ : ByteArray)] from rfl) (Reps.none _ _)))))); intro v471 w10 ho11 hb hg_ hnew_; clear hg_ hnew_; (first | rw [← Ny470.out] at ho11 | (simp only [Int.reduceToNat] at ho11; rw [← Ny470.out] at ho11)); have n0_ := Aside0.mk (Kd.R_below (zR HO466.out) hb); have n1_ := Aside0.mk (Kd.R_lower ho11 (below_size (zB1 HB.out (IsS67.ge HI463.out)))); have n2_ := Aside0.mk (IsS67.below (zI67 HI463.out) hb); have n3_ := Aside0.mk (below_step (zB1 HB.out (IsS67.ge HI463.out)) hb); clear HO466; clear HI463; clear HB; have HO466 := n0_; have HO472 := n1_; have HI463 := n2_; have HB := n3_; clear n0_ n1_ n2_ n3_; clear hb ho11; obtain ⟨Ao12, co12, eo12⟩ := Kd.R_slice HO472.out; subst eo12) | ((with_reducible refine gate_callee (f := 41) rfl ?_); refine zG (some 11) Tryz.func41 #[.pointer (some ⟨g463, 0, none⟩), .string t469, .slice Ao12 y470.length co12] ?_; (with_reducible refine (spec_l1Turned.calls g463 t460 t467 t468 t469 _ _ y470 t473 t474 t475 w _ ?side1 ?side2 ?side3 ?side4 ?side5 A5.out).mono ?_); (case side1 => exact zI67 HI463.out); (case side2 => exact zB1 HB.out (IsS67.ge HI463.out)); (case side3 => exact zQ (Kd.R_reads' HO472.out).2.2); (case side4 => exact (Kd.R_reads' HO472.out).2.1); (case side5 => exact far_slice (IsS67.own_ne HI463.out HO472.out (by decide))); rintro e w13 ⟨rfl, hi, hb, hk⟩; refine ⟨_, rfl, ?_⟩; have n0_ := Aside0.mk (Kd.R_mono (Kd.R_keep (IsS67.apart (show IsS67 w _ g463 t460 t467 t468 from zI67 HI463.out) (zR HO466.out) (by decide)) hk (fun _ h => h.2)) (fun _ h => h.1)); have n1_ := Aside0.mk (Kd.R_mono (Kd.R_keep (IsS67.apart (show IsS67 w _ g463 t460 t467 t468 from zI67 HI463.out) (zR HO472.out) (by decide)) hk (fun _ h => h.2)) (fun _ h => h.1)); have n2_ := Aside0.mk (hb); have n3_ := Aside0.mk (hi); clear HO466; clear HO472; clear HB; clear HI463; have HO466 := n0_; have HO472 := n1_; have HB := n2_; have HI463 := n3_; clear n0_ n1_ n2_ n3_; (try clear hb); (try clear hb2); (try clear hk); (try clear hi)))
 go_ret
 exact ⟨zr, zB1 HB.out (IsS67.ge HI463.out)⟩

def impl_FormatInt.f (a0 : Int) : Option ByteArray := if 0 ≤ a0 ∧ a0 < 100 then some ⟨(Lib.decDigits a0.toNat).toArray⟩ else none
theorem impl_FormatInt.calls (a0 : Int) (r : ByteArray) (w : World) (h : impl_FormatInt.f a0 = some r) : Calls Tryz.prog 68 #[.int .i64 a0] w fun e w' => e = .returned (.string r) ∧ Drawn0 w w' := by
 unfold impl_FormatInt.f at h
 by_cases hb : 0 ≤ a0 ∧ a0 < 100
 case neg => rw [if_neg hb] at h; cases h
 rw [if_pos hb] at h
 obtain rfl := Option.some.inj h
 clear h
 obtain ⟨i, rfl⟩ : ∃ i : Nat, a0 = i := ⟨a0.toNat, by omega⟩
 rw [Int.toNat_natCast]
 have H := Aside0.mk (fun w => Go.Proofs.YtpandocpclecgaaGreatDoor.Shelf.Tryz.strconv_Itoa_small i (by omega) w)
 clear hb
 go_enter Tryz.func68, Tryz.ntmps68
 go_wp2_with (go_at_call 77; refine (H.out _).mono ?_; rintro e w' ⟨rfl, rfl⟩)
 go_ret
 exact ⟨rfl, Drawn0.refl _⟩

theorem addr_plain {w : World} {ad : Addr} {u : Value} (h : w.cell? ad = some u) : ∃ bk o, ad = ⟨bk, o, none⟩ ∧ bk < w.heap.size := by
 obtain ⟨bk, o, sp⟩ := ad
 unfold World.cell? at h
 dsimp only at h
 cases hb : w.heap[bk]? with
 | none => rw [hb] at h; simp at h
 | some ob =>
  have hlt : bk < w.heap.size := (Array.getElem?_eq_some_iff.1 hb).1
  rw [hb] at h
  cases sp with
  | none => exact ⟨bk, o, rfl, hlt⟩
  | some q =>
   exfalso
   cases ob <;> simp at h
def impl_Join.f (l0 : List ByteArray) (a1 : ByteArray) : Option ByteArray := if l0.length ≤ 140737488355328 ∧ (Lib.join (l0.map (·.data.toList)) a1.data.toList).length ≤ 140737488355328 then some ⟨(Lib.join (l0.map (·.data.toList)) a1.data.toList).toArray⟩ else none
theorem impl_Join.calls (A0 : Option Addr) (c0 : Nat) (l0 : List ByteArray) (a1 : ByteArray) (r : ByteArray) (w : World) (hr0 : Kd.C Kd.string w A0 l0.length l0) (hc0 : l0.length ≤ c0) (h : impl_Join.f l0 a1 = some r) : Calls Tryz.prog 69 #[.slice A0 l0.length c0, .string a1] w fun e w' => e = .returned (.string r) ∧ Below w.heap.size w w' := by
 unfold impl_Join.f at h
 by_cases hb : l0.length ≤ 140737488355328 ∧ (Lib.join (l0.map (·.data.toList)) a1.data.toList).length ≤ 140737488355328
 case neg => rw [if_neg hb] at h; cases h
 rw [if_pos hb] at h
 obtain rfl := Option.some.inj h
 clear h
 by_cases hl : l0.length = 0
 ·obtain rfl := List.length_eq_zero_iff.1 hl
  have H := Aside0.mk (fun w => Go.Proofs.YtpandocpclecgaaGreatDoor.Shelf.Tryz.strings_Join_none A0 c0 a1 w)
  clear hr0 hb hl
  go_enter Tryz.func69, Tryz.ntmps69
  go_wp2_with (go_at_call 78; refine (H.out _).mono ?_; rintro e w' ⟨rfl, rfl⟩)
  go_ret
  exact ⟨rfl, Below.refl _ _⟩
 ·obtain ⟨ad, rfl, h0⟩ := Kd.at_string hr0 0 (by omega) (by omega)
  obtain ⟨bk, o, rfl, hlt⟩ := addr_plain h0
  have hcells : ∀ (j : Nat) x, l0[j]? = some x → w.cell? ⟨bk, o + j, none⟩ = some (.string x) := by
   intro j x hj
   obtain ⟨hjl, hx⟩ := List.getElem?_eq_some_iff.1 hj
   obtain ⟨ad, e, h1⟩ := Kd.at_string hr0 (j : Int) (by omega) (by omega)
   obtain rfl := Option.some.inj e
   rw [Int.toNat_natCast] at h1
   unfold rdOf at h1
   rw [Int.toNat_natCast, List.getD_eq_getElem?_getD, hj, Option.getD_some] at h1
   cases j with
   | zero => simpa [Addr.add] using h1
   | succ j => simpa [Addr.add] using h1
  have hne : l0.length ≠ 0 := hl
  have H := Aside0.mk (fun W (hw : W = w) => Go.Proofs.YtpandocpclecgaaGreatDoor.Shelf.Tryz.strings_Join bk o c0 l0 a1 W (hw ▸ hcells) (hw ▸ hlt) hb.1 hc0 hb.2)
  clear hcells hr0 hlt h0
  go_enter Tryz.func69, Tryz.ntmps69
  go_wp2_with (go_at_call 78; refine (H.out _ rfl).mono ?_; rintro e w' ⟨rfl, hw⟩)
  go_ret
  exact ⟨rfl, hw⟩

def impl_joined.l0 : Nat → ByteArray → List ByteArray → List Int → Int → Int → Option (ByteArray)
 | 0, _, _, _, _, _ => none
 | k + 1, x1, x5, x9, x10, x11 => if x11 < x10 then (if 0 ≤ x11 then (if x11 < (x9.length : Int) then ((impl_FormatInt.f (rd x9 x11)).bind fun t480 => (if x5.length < 8796093022208 then (impl_joined.l0 k x1 (x5 ++ [t480]) x9 x10 (wrap64 (x11 + 1))) else (none))) else (none)) else (none)) else ((impl_Join.f x5 x1).bind fun t484 => (some t484))
def impl_joined.f (k : Nat) (l0 : List Int) (a1 : ByteArray) : Option (ByteArray) := impl_joined.l0 k a1 (([] : List ByteArray)) l0 (l0.length : Int) 0
set_option maxHeartbeats 8000000 in
set_option maxRecDepth 100000 in
theorem impl_joined.calls (k : Nat) (A0 : Option Addr) (c0 : Nat) (l0 : List Int) (a1 : ByteArray) (r : ByteArray) (w : World) (hr0 : Kd.C (Kd.int .i64) w A0 l0.length l0) (hc0 : l0.length ≤ c0) (h : impl_joined.f k l0 a1 = some r) :
  Calls Tryz.prog 51 #[.slice A0 l0.length c0, .string a1] w fun e w' => e = .returned (.string r) ∧ Below w.heap.size w w' := by
 have HR0 := Aside0.mk hr0
 have HC0 := Aside0.mk hc0
 clear hr0 hc0
 have HB := Aside0.mk (Below.refl w.heap.size w)
 have H : (impl_joined.l0 k a1 (([] : List ByteArray)) l0 (l0.length : Int) 0) = some r := h
 clear h
 obtain ⟨y476, hy476⟩ : ∃ y_ : List ByteArray, y_ = (([] : List ByteArray)) := ⟨_, rfl⟩
 replace H : (impl_joined.l0 k a1 y476 l0 (l0.length : Int) 0) = some r := zY hy476 H
 have Ny476 := Aside0.mk hy476
 clear hy476
 have H' := Aside0.mk H
 clear H
 go_enter Tryz.func51, Tryz.ntmps51
 go_wp2_with (first | ((with_reducible refine gate_dst (N := 8) rfl ?_); refine Kd.R_lit Kd.string _ 9 ?hg (N := 8) ?hd (xs := ([] : List ByteArray)) (inner := []) (ok := fun _ => True) (okp := fun _ => True) ?hr ?hp (fun _ hk => hk) trivial (Below.refl _ _) (Nat.le_refl _) (by simp) ?_; (case hd => rfl); (case hg => rfl); (case hr => first | (go_simp; done) | (go_simp; rfl)); (case hp => exact (Reps.none _ _)); intro v477 w3 ho4 hb hg_ hnew_; clear hg_ hnew_; (first | rw [← Ny476.out] at ho4 | (simp only [Int.reduceToNat] at ho4; rw [← Ny476.out] at ho4)); have n0_ := Aside0.mk (Kd.R_lower ho4 (below_size (zB HB.out))); have n1_ := Aside0.mk (below_step (zB HB.out) hb); clear HB; have HO478 := n0_; have HB := n1_; clear n0_ n1_; clear hb ho4))
 go_loopg [5, 11] k (fun kq v5 v11 w' => ∃ (x5_1 : List ByteArray) (x11_1 : Int), v11 = .int .i64 x11_1 ∧ Aside0 (impl_joined.l0 kq a1 x5_1 l0 (l0.length : Int) x11_1 = some r) ∧ Aside0 (kq ≤ k) ∧ Aside0 (Kd.R Kd.string 9 w' w.heap.size (fun _ => True) v5 x5_1) ∧ Aside0 (Below w.heap.size w w'))
 case atStart => exact ⟨(y476), (0), zs, H', ⟨Nat.le_refl _⟩, ⟨zR HO478.out⟩, ⟨zB HB.out⟩⟩
 case round =>
  clear H'
  try clear p2
  obtain ⟨x5_1, x11_1, rfl, HA, HK1, HO_5, HB⟩ := hrel
  cases gk with
  | zero => exact absurd HA.out (by simp [impl_joined.l0])
  | succ k1 =>
   have H := HA.out
   clear HA
   simp only [impl_joined.l0] at H
   by_cases c5 : x11_1 < (l0.length : Int)
   ·rw [if_pos c5] at H
    have c5b0 : decide (x11_1 < (l0.length : Int)) = true := decide_eq_true c5
    clear c5
    by_cases c6 : 0 ≤ x11_1
    ·rw [if_pos c6] at H
     have c6b0 : decide (0 ≤ x11_1) = true := decide_eq_true c6
     clear c6
     by_cases c7 : x11_1 < (l0.length : Int)
     ·rw [if_pos c7] at H
      have c7b0 : decide (x11_1 < (l0.length : Int)) = true := decide_eq_true c7
      clear c7
      replace H := Option.bind_eq_some_iff.mp H
      obtain ⟨t480, A80, H⟩ := H
      replace H : (if x5_1.length < 8796093022208 then (impl_joined.l0 k1 a1 (x5_1 ++ [t480]) l0 (l0.length : Int) (wrap64 (x11_1 + 1))) else (none)) = some r := H
      have A8 := Aside0.mk A80
      clear A80
      by_cases c9 : x5_1.length < 8796093022208
      ·rw [if_pos c9] at H
       have LMc9 := Aside0.mk c9
       clear c9
       obtain ⟨y481, hy481⟩ : ∃ y_ : List ByteArray, y_ = (x5_1 ++ [t480]) := ⟨_, rfl⟩
       replace H : (impl_joined.l0 k1 a1 y481 l0 (l0.length : Int) (wrap64 (x11_1 + 1))) = some r := zY hy481 H
       have Ny481 := Aside0.mk hy481
       clear hy481
       have H' := Aside0.mk H
       clear H
       have p479 : 0 ≤ (x11_1 : Int) := zd
       have q479 : x11_1 < (l0.length : Int) := zd
       obtain ⟨ad479, e479, hx479_0⟩ := Kd.at_int HR0.out x11_1 p479 q479
       cases e479
       replace hx479_0 := (HB.out.cell (World.block_lt_of_cell? w _ hx479_0)).trans hx479_0
       replace p479 := eq_true p479
       replace q479 := eq_true q479
       go_wp2_with (first | ((with_reducible refine gate_callee (f := 68) rfl ?_); refine zG (some 17) Tryz.func68 #[.int .i64 (rd l0 x11_1)] ?_; (with_reducible refine (impl_FormatInt.calls (rd l0 x11_1) t480 _ A8.out).mono ?_); rintro e w' ⟨rfl, ⟨nd, rfl⟩⟩; refine ⟨_, rfl, ?_⟩) | ((with_reducible refine gate_builtin (b := .append) (xs := #[.tmp 15, .tmp 18]) rfl ?_); at_builtin; refine Kd.R_append Kd.string (w0 := w) w.heap.size rfl (.tmp 15) (.tmp 18) 53 9 (.string ⟨#[]⟩) 16 rfl Tryz.underlying53 info9 rfl (by decide) (by omega) u5 x5_1 t480 [.string t480] (fun _ => True) (fun _ => False) rfl rfl ?aP (fun _ hk => hk.elim) ?aF ?aO ?aB ?aS ?aL ?_; (case aP => exact rfl); (case aB => exact (zB HB.out)); (case aF => exact (fun _ _ => trivial)); (case aO => exact (zR HO_5.out)); (case aS => exact (below_size (zB HB.out))); (case aL => have := LMc9.out; omega); intro v482 w10 ho hb hg hat; rw [← Ny481.out] at ho; have n0_ := Aside0.mk (hb); have n1_ := Aside0.mk (ho); clear HB; clear HO_5; have HB := n0_; have HO483 := n1_; clear n0_ n1_; clear ho hb hg hat))
       go_roundg k1
       case measure => have := HK1.out; omega
       case rel => exact ⟨(y481), (wrap64 (x11_1 + 1)), zs, H', ⟨by have := HK1.out; omega⟩, ⟨zR HO483.out⟩, ⟨zB HB.out⟩⟩
      ·rw [if_neg c9] at H
       exact absurd H (by simp)
     ·rw [if_neg c7] at H
      exact absurd H (by simp)
    ·rw [if_neg c6] at H
     exact absurd H (by simp)
   ·rw [if_neg c5] at H
    have c5b0 : decide (x11_1 < (l0.length : Int)) = false := decide_eq_false c5
    clear c5
    replace H := Option.bind_eq_some_iff.mp H
    obtain ⟨t484, A110, H⟩ := H
    replace H : (some t484) = some r := H
    have A11 := Aside0.mk A110
    clear A110
    obtain rfl := Option.some.inj H
    obtain ⟨Ao12, co12, eo12⟩ := Kd.R_slice HO_5.out
    subst eo12
    go_wp2_with (first | ((with_reducible refine gate_callee (f := 69) rfl ?_); refine zG (some 23) Tryz.func69 #[.slice Ao12 x5_1.length co12, .string a1] ?_; (with_reducible refine (impl_Join.calls _ _ x5_1 a1 t484 _ ?side1 ?side2 A11.out).mono ?_); (case side1 => exact zQ (Kd.R_reads' HO_5.out).2.2); (case side2 => exact (Kd.R_reads' HO_5.out).2.1); rintro e w13 ⟨rfl, hb⟩; refine ⟨_, rfl, ?_⟩; have n0_ := Aside0.mk (Kd.R_below (zR HO_5.out) hb); have n1_ := Aside0.mk (below_step (zB HB.out) hb); clear HO_5; clear HB; have HO_5 := n0_; have HB := n1_; clear n0_ n1_; (try clear hb); (try clear hb2); (try clear hk); (try clear hi)))
    go_ret
    exact ⟨zr, zB HB.out⟩

def impl_WordText.f (k : Nat) (l0 : List Int) : Option (ByteArray) := (impl_IsWord.f l0).bind fun t485 => (if t485 = true then (if (l0.length : Int) = 0 then (some (⟨#[45]⟩ : ByteArray)) else ((impl_joined.f k l0 (⟨#[]⟩ : ByteArray)).bind fun t486 => (some t486))) else (some (⟨#[]⟩ : ByteArray)))
set_option maxHeartbeats 8000000 in
set_option maxRecDepth 100000 in
theorem impl_WordText.calls (k : Nat) (A0 : Option Addr) (c0 : Nat) (l0 : List Int) (r : ByteArray) (w : World) (hr0 : Kd.C (Kd.int .i64) w A0 l0.length l0) (hc0 : l0.length ≤ c0) (h : impl_WordText.f k l0 = some r) :
  Calls Tryz.prog 29 #[.slice A0 l0.length c0] w fun e w' => e = .returned (.string r) ∧ Below w.heap.size w w' := by
 have HR0 := Aside0.mk hr0
 have HC0 := Aside0.mk hc0
 clear hr0 hc0
 have HB := Aside0.mk (Below.refl w.heap.size w)
 have H : ((impl_IsWord.f l0).bind fun t485 => (if t485 = true then (if (l0.length : Int) = 0 then (some (⟨#[45]⟩ : ByteArray)) else ((impl_joined.f k l0 (⟨#[]⟩ : ByteArray)).bind fun t486 => (some t486))) else (some (⟨#[]⟩ : ByteArray)))) = some r := h
 clear h
 replace H := Option.bind_eq_some_iff.mp H
 obtain ⟨t485, A20, H⟩ := H
 replace H : (if t485 = true then (if (l0.length : Int) = 0 then (some (⟨#[45]⟩ : ByteArray)) else ((impl_joined.f k l0 (⟨#[]⟩ : ByteArray)).bind fun t486 => (some t486))) else (some (⟨#[]⟩ : ByteArray))) = some r := H
 have A2 := Aside0.mk A20
 clear A20
 by_cases c3 : t485 = true
 ·subst c3
  have H1 : (if (l0.length : Int) = 0 then (some (⟨#[45]⟩ : ByteArray)) else ((impl_joined.f k l0 (⟨#[]⟩ : ByteArray)).bind fun t486 => (some t486))) = some r := by rw [if_pos rfl] at H; exact H
  clear H
  have H := H1
  clear H1
  by_cases c4 : (l0.length : Int) = 0
  ·rw [if_pos c4] at H
   have c4b0 : ((l0.length : Int) == 0) = true := beq_iff_eq.mpr c4
   have c4b1 : ((l0.length : Int) != 0) = false := bne_eq_false_iff_eq.mpr c4
   clear c4
   obtain rfl := Option.some.inj H
   go_enter Tryz.func29, Tryz.ntmps29
   go_wp2_with (first | ((with_reducible refine gate_callee (f := 21) rfl ?_); refine zG (some 5) Tryz.func21 #[.slice A0 l0.length c0] ?_; (with_reducible refine (impl_IsWord.calls _ _ l0 true _ ?side1 ?side2 A2.out).mono ?_); (case side1 => exact zQ HR0.out); (case side2 => exact HC0.out); rintro e w' ⟨rfl, ⟨nd, rfl⟩⟩; refine ⟨_, rfl, ?_⟩))
   go_ret
   exact ⟨zr, zB HB.out⟩
  ·rw [if_neg c4] at H
   have c4b0 : ((l0.length : Int) == 0) = false := beq_eq_false_iff_ne.mpr c4
   have c4b1 : ((l0.length : Int) != 0) = true := bne_iff_ne.mpr c4
   have c4b2 : ¬ (l0 = []) := fun h_ => c4 (by rw [h_]; rfl)
   replace H := Option.bind_eq_some_iff.mp H
   obtain ⟨t486, A50, H⟩ := H
   replace H : (some t486) = some r := H
   have A5 := Aside0.mk A50
   clear A50
   obtain rfl := Option.some.inj H
   go_enter Tryz.func29, Tryz.ntmps29
   go_wp2_with (first | ((with_reducible refine gate_callee (f := 21) rfl ?_); refine zG (some 5) Tryz.func21 #[.slice A0 l0.length c0] ?_; (with_reducible refine (impl_IsWord.calls _ _ l0 true _ ?side1 ?side2 A2.out).mono ?_); (case side1 => exact zQ HR0.out); (case side2 => exact HC0.out); rintro e w' ⟨rfl, ⟨nd, rfl⟩⟩; refine ⟨_, rfl, ?_⟩) | ((with_reducible refine gate_callee (f := 51) rfl ?_); refine zG (some 12) Tryz.func51 #[.slice A0 l0.length c0, .string (⟨#[]⟩ : ByteArray)] ?_; (with_reducible refine (impl_joined.calls k _ _ l0 (⟨#[]⟩ : ByteArray) t486 _ ?side1 ?side2 A5.out).mono ?_); (case side1 => exact zQ HR0.out); (case side2 => exact HC0.out); rintro e w6 ⟨rfl, hb⟩; refine ⟨_, rfl, ?_⟩; have n0_ := Aside0.mk (below_step (zB HB.out) hb); clear HB; have HB := n0_; clear n0_; (try clear hb); (try clear hb2); (try clear hk); (try clear hi)))
   go_ret
   exact ⟨zr, zB HB.out⟩
 ·replace c3 := Bool.eq_false_iff.mpr c3
  subst c3
  have H1 : (some (⟨#[]⟩ : ByteArray)) = some r := by rw [if_neg (show ¬ (false = true) by decide)] at H; exact H
  clear H
  have H := H1
  clear H1
  obtain rfl := Option.some.inj H
  go_enter Tryz.func29, Tryz.ntmps29
  go_wp2_with (first | ((with_reducible refine gate_callee (f := 21) rfl ?_); refine zG (some 5) Tryz.func21 #[.slice A0 l0.length c0] ?_; (with_reducible refine (impl_IsWord.calls _ _ l0 false _ ?side1 ?side2 A2.out).mono ?_); (case side1 => exact zQ HR0.out); (case side2 => exact HC0.out); rintro e w' ⟨rfl, ⟨nd, rfl⟩⟩; refine ⟨_, rfl, ?_⟩))
  go_ret
  exact ⟨zr, zB HB.out⟩

end Go.Proofs.YtpandocpclecgaaGreatDoor.F
