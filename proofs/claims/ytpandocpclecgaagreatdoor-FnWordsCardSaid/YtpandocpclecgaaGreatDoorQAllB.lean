/- Plain Lean: what the printed functions compute, topic by topic; conditions: those that each theorem names. -/
import Derived.Test.YtpandocpclecgaaGreatDoorQAll
import Derived.Test.YtpandocpclecgaaGreatDoorF0
import Derived.Test.YtpandocpclecgaaGreatDoorF1
import Derived.Test.YtpandocpclecgaaGreatDoorF12
import Derived.Test.YtpandocpclecgaaGreatDoorF13
import Derived.Test.YtpandocpclecgaaGreatDoorF14
import Derived.Test.YtpandocpclecgaaGreatDoorF15
import Derived.Test.YtpandocpclecgaaGreatDoorF2
import Derived.Test.YtpandocpclecgaaGreatDoorF3
import Derived.Test.YtpandocpclecgaaGreatDoorF6
import Derived.Test.YtpandocpclecgaaGreatDoorF7
import Derived.Test.YtpandocpclecgaaGreatDoorF8
import Derived.Test.YtpandocpclecgaaGreatDoorF9
import Derived.Deep.DeepCutAuto
import Derived.Deep.RegionHeld3
import Derived.IntWalk
import Derived.Deep.Matrix
import Derived.Lib.SmallJoins
import Derived.ProofKit
import Derived.OpenShut
import Derived.ChangeSlices
set_option linter.unusedVariables false
set_option linter.unusedSimpArgs false
namespace Go.Proofs.YtpandocpclecgaaGreatDoor.Q
open Go.RowKit Go.Proofs.YtpandocpclecgaaGreatDoor.F Go.Proofs.YtpandocpclecgaaGreatDoorW.PrintWords Go.Proofs.YtpandocpclecgaaGreatDoorW.PrintLast Go.Proofs.YtpandocpclecgaaGreatDoorW.PrintMore
theorem laws_sameInts_sx {w W : World} {L : List Ob} {v0 : Value} {x0 : List Int} {v1 : Value} {x1 : List Int} {r0 : Bool} (h : St w W L) (g0 : Reads (Kd.int .i64) W v0 x0) (g1 : Reads (Kd.int .i64) W v1 x1) (hE : Ev (fun k => laws_sameInts.f k x0 x1) r0) :
    Calls Tryz.prog 15 #[v0, v1] W fun e W' => e = .returned (.bool r0) ∧ St w W' (L) := by
  obtain ⟨A0, c0, rfl, l0, C0⟩ := g0
  obtain ⟨A1, c1, rfl, l1, C1⟩ := g1
  obtain ⟨K, hK⟩ := hE
  refine (laws_sameInts.calls K A0 c0 x0 A1 c1 x1 r0 W C0 l0 C1 l1 (hK K (Nat.le_refl _))).mono ?_
  rintro e W' ⟨rfl, hb⟩
  exact ⟨rfl, h.quiet (by first | exact hb | exact hb.below)⟩
theorem laws_big_sx {w W : World} {L : List Ob} {A0 : Option Addr} {c0 : Nat} {x0 : List Int} {r0 : Bool} (h : St w W L) (g0 : Kd.C (Kd.int .u8) w A0 x0.length x0) (l0 : x0.length ≤ c0) (hE : laws_big.f x0 = some r0) :
    Calls Tryz.prog 4 #[.slice A0 x0.length c0] W fun e W' => e = .returned (.bool r0) ∧ St w W' (L) := by
  refine (laws_big.calls A0 c0 x0 r0 W (Kd.C_below g0 h.below) l0 hE).mono ?_
  rintro e W' ⟨rfl, hb⟩
  exact ⟨rfl, h.quiet (by first | exact hb | exact hb.below)⟩
theorem impl_StandardizeWord_sx {w W : World} {L : List Ob} {v0 : Value} {x0 : List Int} {r0 : List Int} (h : St w W L) (g0 : Reads (Kd.int .i64) W v0 x0) (hE : Ev (fun k => impl_StandardizeWord.f k x0) r0) :
    Calls Tryz.prog 6 #[v0] W fun e W' => ∃ R0 q0 ok0, e = .returned (.slice R0 r0.length q0) ∧ St w W' (obR (Kd.int .i64) 3 w ok0 (.slice R0 r0.length q0) r0 :: L) := by
  obtain ⟨A0, c0, rfl, l0, C0⟩ := g0
  obtain ⟨K, hK⟩ := hE
  refine (impl_StandardizeWord.calls K A0 c0 x0 r0 W C0 l0 (hK K (Nat.le_refl _))).mono ?_
  rintro e W' ⟨v, rfl, hR, hB⟩
  obtain ⟨R, q, rfl⟩ := Kd.R_slice hR
  obtain ⟨ok, h1⟩ := h.addR hB hR
  exact ⟨R, q, ok, rfl, h1⟩
theorem impl_ReverseWord_sx {w W : World} {L : List Ob} {v0 : Value} {x0 : List Int} {r0 : List Int} (h : St w W L) (g0 : Reads (Kd.int .i64) W v0 x0) (hE : Ev (fun k => impl_ReverseWord.f k x0) r0) :
    Calls Tryz.prog 27 #[v0] W fun e W' => ∃ R0 q0 ok0, e = .returned (.slice R0 r0.length q0) ∧ St w W' (obR (Kd.int .i64) 3 w ok0 (.slice R0 r0.length q0) r0 :: L) := by
  obtain ⟨A0, c0, rfl, l0, C0⟩ := g0
  obtain ⟨K, hK⟩ := hE
  refine (impl_ReverseWord.calls K A0 c0 x0 r0 W C0 l0 (hK K (Nat.le_refl _))).mono ?_
  rintro e W' ⟨v, rfl, hR, hB⟩
  obtain ⟨R, q, rfl⟩ := Kd.R_slice hR
  obtain ⟨ok, h1⟩ := h.addR hB hR
  exact ⟨R, q, ok, rfl, h1⟩
theorem impl_ReadingWord_sx {w W : World} {L : List Ob} {v0 u0 : Value} {x0 : List Int} {y0 : List (List Int)} {r0 : List Int} (h : St w W L) (g0 : Reads (Kd.int .i64) W v0 x0) (k0 : Reads (Kd.slice 3 (Kd.int .i64)) W u0 y0) (hE : Ev (fun k => impl_ReadingWord.f k x0 y0) r0) :
    Calls Tryz.prog 17 #[.agg #[v0, u0]] W fun e W' => ∃ R0 q0 ok0, e = .returned (.slice R0 r0.length q0) ∧ St w W' (obR (Kd.int .i64) 3 w ok0 (.slice R0 r0.length q0) r0 :: L) := by
  obtain ⟨A0, c0, rfl, l0, C0⟩ := g0
  obtain ⟨B0, d0, rfl, m0, D0⟩ := k0
  obtain ⟨K, hK⟩ := hE
  refine (impl_ReadingWord.calls K A0 c0 x0 B0 d0 y0 r0 W C0 l0 D0 m0 (hK K (Nat.le_refl _))).mono ?_
  rintro e W' ⟨v, rfl, hR, hB⟩
  obtain ⟨R, q, rfl⟩ := Kd.R_slice hR
  obtain ⟨ok, h1⟩ := h.addR hB hR
  exact ⟨R, q, ok, rfl, h1⟩
theorem impl_ComplementWord_sx {w W : World} {L : List Ob} {v0 : Value} {x0 : List Int} {n1 : Int} {r0 : List Int} {r1 : Bool} (h : St w W L) (g0 : Reads (Kd.int .i64) W v0 x0) (hE : impl_ComplementWord.f x0 n1 = some (r0, r1)) :
    Calls Tryz.prog 10 #[v0, .int .i64 n1] W fun e W' => ∃ R0 q0 ok0, e = .returned (.tuple #[.slice R0 r0.length q0, .bool r1]) ∧ St w W' (obR (Kd.int .i64) 3 w ok0 (.slice R0 r0.length q0) r0 :: L) := by
  obtain ⟨A0, c0, rfl, l0, C0⟩ := g0
  refine (impl_ComplementWord.calls A0 c0 x0 n1 r0 r1 W C0 l0 hE).mono ?_
  rintro e W' ⟨v, rfl, hR, hB⟩
  obtain ⟨R, q, rfl⟩ := Kd.R_slice hR
  obtain ⟨ok, h1⟩ := h.addR hB hR
  exact ⟨R, q, ok, rfl, h1⟩
theorem impl_ParseWord_sx {w W : World} {L : List Ob} {s0 : ByteArray} {r0 : List Int} {r1 : Bool} (h : St w W L)  (hE : Ev (fun k => impl_ParseWord.f k s0) (r0, r1)) :
    Calls Tryz.prog 13 #[.string s0] W fun e W' => ∃ R0 q0 ok0, e = .returned (.tuple #[.slice R0 r0.length q0, .bool r1]) ∧ St w W' (obR (Kd.int .i64) 3 w ok0 (.slice R0 r0.length q0) r0 :: L) := by
  obtain ⟨K, hK⟩ := hE
  refine (impl_ParseWord.calls K s0 r0 r1 W  (hK K (Nat.le_refl _))).mono ?_
  rintro e W' ⟨v, rfl, hR, hB⟩
  obtain ⟨R, q, rfl⟩ := Kd.R_slice hR
  obtain ⟨ok, h1⟩ := h.addR hB hR
  exact ⟨R, q, ok, rfl, h1⟩
theorem impl_IsWord_sx {w W : World} {L : List Ob} {v0 : Value} {x0 : List Int} {r0 : Bool} (h : St w W L) (g0 : Reads (Kd.int .i64) W v0 x0) (hE : impl_IsWord.f x0 = some r0) :
    Calls Tryz.prog 21 #[v0] W fun e W' => e = .returned (.bool r0) ∧ St w W' (L) := by
  obtain ⟨A0, c0, rfl, l0, C0⟩ := g0
  refine (impl_IsWord.calls A0 c0 x0 r0 W C0 l0 hE).mono ?_
  rintro e W' ⟨rfl, hb⟩
  exact ⟨rfl, h.quiet (by first | exact hb | exact hb.below)⟩
theorem impl_IsLattice_sx {w W : World} {L : List Ob} {v0 : Value} {x0 : List Int} {r0 : Bool} (h : St w W L) (g0 : Reads (Kd.int .i64) W v0 x0) (hE : impl_IsLattice.f x0 = some r0) :
    Calls Tryz.prog 19 #[v0] W fun e W' => e = .returned (.bool r0) ∧ St w W' (L) := by
  obtain ⟨A0, c0, rfl, l0, C0⟩ := g0
  refine (impl_IsLattice.calls A0 c0 x0 r0 W C0 l0 hE).mono ?_
  rintro e W' ⟨rfl, hb⟩
  exact ⟨rfl, h.quiet (by first | exact hb | exact hb.below)⟩
theorem impl_DescentCount_sx {w W : World} {L : List Ob} {v0 : Value} {x0 : List Int} {r0 : Int} (h : St w W L) (g0 : Reads (Kd.int .i64) W v0 x0) (hE : Ev (fun k => impl_DescentCount.f k x0) r0) :
    Calls Tryz.prog 23 #[v0] W fun e W' => e = .returned (.int .i64 r0) ∧ St w W' (L) := by
  obtain ⟨A0, c0, rfl, l0, C0⟩ := g0
  obtain ⟨K, hK⟩ := hE
  refine (impl_DescentCount.calls K A0 c0 x0 r0 W C0 l0 (hK K (Nat.le_refl _))).mono ?_
  rintro e W' ⟨rfl, hb⟩
  exact ⟨rfl, h.quiet (by first | exact hb | exact hb.below)⟩
theorem impl_InversionCount_sx {w W : World} {L : List Ob} {v0 : Value} {x0 : List Int} {r0 : Int} (h : St w W L) (g0 : Reads (Kd.int .i64) W v0 x0) (hE : Ev (fun k => impl_InversionCount.f k x0) r0) :
    Calls Tryz.prog 25 #[v0] W fun e W' => e = .returned (.int .i64 r0) ∧ St w W' (L) := by
  obtain ⟨A0, c0, rfl, l0, C0⟩ := g0
  obtain ⟨K, hK⟩ := hE
  refine (impl_InversionCount.calls K A0 c0 x0 r0 W C0 l0 (hK K (Nat.le_refl _))).mono ?_
  rintro e W' ⟨rfl, hb⟩
  exact ⟨rfl, h.quiet (by first | exact hb | exact hb.below)⟩
theorem impl_WordText_sx {w W : World} {L : List Ob} {v0 : Value} {x0 : List Int} {r0 : ByteArray} (h : St w W L) (g0 : Reads (Kd.int .i64) W v0 x0) (hE : Ev (fun k => impl_WordText.f k x0) r0) :
    Calls Tryz.prog 29 #[v0] W fun e W' => e = .returned (.string r0) ∧ St w W' (L) := by
  obtain ⟨A0, c0, rfl, l0, C0⟩ := g0
  obtain ⟨K, hK⟩ := hE
  refine (impl_WordText.calls K A0 c0 x0 r0 W C0 l0 (hK K (Nat.le_refl _))).mono ?_
  rintro e W' ⟨rfl, hb⟩
  exact ⟨rfl, h.quiet (by first | exact hb | exact hb.below)⟩
theorem spec_StandardizeWord_sx {w W : World} {L : List Ob} {v0 : Value} {x0 : List Int} {r0 : List Int} (h : St w W L) (g0 : Reads (Kd.int .i64) W v0 x0) (hE : Ev (fun k => spec_StandardizeWord.f k x0) r0) :
    Calls Tryz.prog 16 #[v0] W fun e W' => ∃ R0 q0 ok0, e = .returned (.slice R0 r0.length q0) ∧ St w W' (obR (Kd.int .i64) 3 w ok0 (.slice R0 r0.length q0) r0 :: L) := by
  obtain ⟨A0, c0, rfl, l0, C0⟩ := g0
  obtain ⟨K, hK⟩ := hE
  refine (spec_StandardizeWord.calls K A0 c0 x0 r0 W C0 l0 (hK K (Nat.le_refl _))).mono ?_
  rintro e W' ⟨v, rfl, hR, hB⟩
  obtain ⟨R, q, rfl⟩ := Kd.R_slice hR
  obtain ⟨ok, h1⟩ := h.addR hB hR
  exact ⟨R, q, ok, rfl, h1⟩
theorem spec_ReverseWord_sx {w W : World} {L : List Ob} {v0 : Value} {x0 : List Int} {r0 : List Int} (h : St w W L) (g0 : Reads (Kd.int .i64) W v0 x0) (hE : Ev (fun k => spec_ReverseWord.f k x0) r0) :
    Calls Tryz.prog 28 #[v0] W fun e W' => ∃ R0 q0 ok0, e = .returned (.slice R0 r0.length q0) ∧ St w W' (obR (Kd.int .i64) 3 w ok0 (.slice R0 r0.length q0) r0 :: L) := by
  obtain ⟨A0, c0, rfl, l0, C0⟩ := g0
  obtain ⟨K, hK⟩ := hE
  refine (spec_ReverseWord.calls K A0 c0 x0 r0 W C0 l0 (hK K (Nat.le_refl _))).mono ?_
  rintro e W' ⟨v, rfl, hR, hB⟩
  obtain ⟨R, q, rfl⟩ := Kd.R_slice hR
  obtain ⟨ok, h1⟩ := h.addR hB hR
  exact ⟨R, q, ok, rfl, h1⟩
theorem spec_ReadingWord_sx {w W : World} {L : List Ob} {v0 u0 : Value} {x0 : List Int} {y0 : List (List Int)} {r0 : List Int} (h : St w W L) (g0 : Reads (Kd.int .i64) W v0 x0) (k0 : Reads (Kd.slice 3 (Kd.int .i64)) W u0 y0) (hE : Ev (fun k => spec_ReadingWord.f k x0 y0) r0) :
    Calls Tryz.prog 18 #[.agg #[v0, u0]] W fun e W' => ∃ R0 q0 ok0, e = .returned (.slice R0 r0.length q0) ∧ St w W' (obR (Kd.int .i64) 3 w ok0 (.slice R0 r0.length q0) r0 :: L) := by
  obtain ⟨A0, c0, rfl, l0, C0⟩ := g0
  obtain ⟨B0, d0, rfl, m0, D0⟩ := k0
  obtain ⟨K, hK⟩ := hE
  refine (spec_ReadingWord.calls K A0 c0 x0 B0 d0 y0 r0 W C0 l0 D0 m0 (hK K (Nat.le_refl _))).mono ?_
  rintro e W' ⟨v, rfl, hR, hB⟩
  obtain ⟨R, q, rfl⟩ := Kd.R_slice hR
  obtain ⟨ok, h1⟩ := h.addR hB hR
  exact ⟨R, q, ok, rfl, h1⟩
theorem spec_ComplementWord_sx {w W : World} {L : List Ob} {v0 : Value} {x0 : List Int} {n1 : Int} {r0 : List Int} {r1 : Bool} (h : St w W L) (g0 : Reads (Kd.int .i64) W v0 x0) (hE : Ev (fun k => spec_ComplementWord.f k x0 n1) (r0, r1)) :
    Calls Tryz.prog 11 #[v0, .int .i64 n1] W fun e W' => ∃ R0 q0 ok0, e = .returned (.tuple #[.slice R0 r0.length q0, .bool r1]) ∧ St w W' (obR (Kd.int .i64) 3 w ok0 (.slice R0 r0.length q0) r0 :: L) := by
  obtain ⟨A0, c0, rfl, l0, C0⟩ := g0
  obtain ⟨K, hK⟩ := hE
  refine (spec_ComplementWord.calls K A0 c0 x0 n1 r0 r1 W C0 l0 (hK K (Nat.le_refl _))).mono ?_
  rintro e W' ⟨v, rfl, hR, hB⟩
  obtain ⟨R, q, rfl⟩ := Kd.R_slice hR
  obtain ⟨ok, h1⟩ := h.addR hB hR
  exact ⟨R, q, ok, rfl, h1⟩
theorem spec_ParseWord_sx {w W : World} {L : List Ob} {s0 : ByteArray} {r0 : List Int} {r1 : Bool} (h : St w W L)  (hE : Ev (fun k => spec_ParseWord.f k s0) (r0, r1)) :
    Calls Tryz.prog 14 #[.string s0] W fun e W' => ∃ R0 q0 ok0, e = .returned (.tuple #[.slice R0 r0.length q0, .bool r1]) ∧ St w W' (obR (Kd.int .i64) 3 w ok0 (.slice R0 r0.length q0) r0 :: L) := by
  obtain ⟨K, hK⟩ := hE
  refine (spec_ParseWord.calls K s0 r0 r1 W  (hK K (Nat.le_refl _))).mono ?_
  rintro e W' ⟨v, rfl, hR, hB⟩
  obtain ⟨R, q, rfl⟩ := Kd.R_slice hR
  obtain ⟨ok, h1⟩ := h.addR hB hR
  exact ⟨R, q, ok, rfl, h1⟩
theorem spec_IsWord_sx {w W : World} {L : List Ob} {v0 : Value} {x0 : List Int} {r0 : Bool} (h : St w W L) (g0 : Reads (Kd.int .i64) W v0 x0) (hE : Ev (fun k => spec_IsWord.f k x0) r0) :
    Calls Tryz.prog 22 #[v0] W fun e W' => e = .returned (.bool r0) ∧ St w W' (L) := by
  obtain ⟨A0, c0, rfl, l0, C0⟩ := g0
  obtain ⟨K, hK⟩ := hE
  refine (spec_IsWord.calls K A0 c0 x0 r0 W C0 l0 (hK K (Nat.le_refl _))).mono ?_
  rintro e W' ⟨rfl, hb⟩
  exact ⟨rfl, h.quiet (by first | exact hb | exact hb.below)⟩
theorem spec_IsLattice_sx {w W : World} {L : List Ob} {v0 : Value} {x0 : List Int} {r0 : Bool} (h : St w W L) (g0 : Reads (Kd.int .i64) W v0 x0) (hE : Ev (fun k => spec_IsLattice.f k x0) r0) :
    Calls Tryz.prog 20 #[v0] W fun e W' => e = .returned (.bool r0) ∧ St w W' (L) := by
  obtain ⟨A0, c0, rfl, l0, C0⟩ := g0
  obtain ⟨K, hK⟩ := hE
  refine (spec_IsLattice.calls K A0 c0 x0 r0 W C0 l0 (hK K (Nat.le_refl _))).mono ?_
  rintro e W' ⟨rfl, hb⟩
  exact ⟨rfl, h.quiet (by first | exact hb | exact hb.below)⟩
theorem spec_DescentCount_sx {w W : World} {L : List Ob} {v0 : Value} {x0 : List Int} {r0 : Int} (h : St w W L) (g0 : Reads (Kd.int .i64) W v0 x0) (hE : Ev (fun k => spec_DescentCount.f k x0) r0) :
    Calls Tryz.prog 24 #[v0] W fun e W' => e = .returned (.int .i64 r0) ∧ St w W' (L) := by
  obtain ⟨A0, c0, rfl, l0, C0⟩ := g0
  obtain ⟨K, hK⟩ := hE
  refine (spec_DescentCount.calls K A0 c0 x0 r0 W C0 l0 (hK K (Nat.le_refl _))).mono ?_
  rintro e W' ⟨rfl, hb⟩
  exact ⟨rfl, h.quiet (by first | exact hb | exact hb.below)⟩
theorem spec_InversionCount_sx {w W : World} {L : List Ob} {v0 : Value} {x0 : List Int} {r0 : Int} (h : St w W L) (g0 : Reads (Kd.int .i64) W v0 x0) (hE : Ev (fun k => spec_InversionCount.f k x0) r0) :
    Calls Tryz.prog 26 #[v0] W fun e W' => e = .returned (.int .i64 r0) ∧ St w W' (L) := by
  obtain ⟨A0, c0, rfl, l0, C0⟩ := g0
  obtain ⟨K, hK⟩ := hE
  refine (spec_InversionCount.calls K A0 c0 x0 r0 W C0 l0 (hK K (Nat.le_refl _))).mono ?_
  rintro e W' ⟨rfl, hb⟩
  exact ⟨rfl, h.quiet (by first | exact hb | exact hb.below)⟩
theorem spec_WordText_sx {w W : World} {L : List Ob} {v0 : Value} {x0 : List Int} {r0 : ByteArray} (h : St w W L) (g0 : Reads (Kd.int .i64) W v0 x0) (hE : Ev (fun k => spec_WordText.f k x0) r0) :
    Calls Tryz.prog 30 #[v0] W fun e W' => e = .returned (.string r0) ∧ St w W' (L) := by
  obtain ⟨A0, c0, rfl, l0, C0⟩ := g0
  obtain ⟨K, hK⟩ := hE
  refine (spec_WordText.calls K A0 c0 x0 r0 W C0 l0 (hK K (Nat.le_refl _))).mono ?_
  rintro e W' ⟨rfl, hb⟩
  exact ⟨rfl, h.quiet (by first | exact hb | exact hb.below)⟩
theorem spec_DrawStandardizeWord_sx {w W : World} {L : List Ob} {A0 : Option Addr} {c0 : Nat} {x0 : List Int} {r0 : List Int} (h : St w W L) (g0 : Kd.C (Kd.int .u8) w A0 x0.length x0) (l0 : x0.length ≤ c0) (hE : Ev (fun k => spec_DrawStandardizeWord.f k x0) r0) :
    Calls Tryz.prog 5 #[.slice A0 x0.length c0] W fun e W' => ∃ R0 q0 ok0, e = .returned (.slice R0 r0.length q0) ∧ St w W' (obR (Kd.int .i64) 3 w ok0 (.slice R0 r0.length q0) r0 :: L) := by
  obtain ⟨K, hK⟩ := hE
  refine (spec_DrawStandardizeWord.calls K A0 c0 x0 r0 W (Kd.C_below g0 h.below) l0 (hK K (Nat.le_refl _))).mono ?_
  rintro e W' ⟨v, rfl, hR, hB⟩
  obtain ⟨R, q, rfl⟩ := Kd.R_slice hR
  obtain ⟨ok, h1⟩ := h.addR hB hR
  exact ⟨R, q, ok, rfl, h1⟩
theorem spec_DrawIsLattice_sx {w W : World} {L : List Ob} {A0 : Option Addr} {c0 : Nat} {x0 : List Int} {r0 : List Int} (h : St w W L) (g0 : Kd.C (Kd.int .u8) w A0 x0.length x0) (l0 : x0.length ≤ c0) (hE : Ev (fun k => spec_DrawIsLattice.f k x0) r0) :
    Calls Tryz.prog 8 #[.slice A0 x0.length c0] W fun e W' => ∃ R0 q0 ok0, e = .returned (.slice R0 r0.length q0) ∧ St w W' (obR (Kd.int .i64) 3 w ok0 (.slice R0 r0.length q0) r0 :: L) := by
  obtain ⟨K, hK⟩ := hE
  refine (spec_DrawIsLattice.calls K A0 c0 x0 r0 W (Kd.C_below g0 h.below) l0 (hK K (Nat.le_refl _))).mono ?_
  rintro e W' ⟨v, rfl, hR, hB⟩
  obtain ⟨R, q, rfl⟩ := Kd.R_slice hR
  obtain ⟨ok, h1⟩ := h.addR hB hR
  exact ⟨R, q, ok, rfl, h1⟩
theorem spec_DrawComplementWord_sx {w W : World} {L : List Ob} {A0 : Option Addr} {c0 : Nat} {x0 : List Int} {r0 : List Int} {r1 : Int} (h : St w W L) (g0 : Kd.C (Kd.int .u8) w A0 x0.length x0) (l0 : x0.length ≤ c0) (hE : Ev (fun k => spec_DrawComplementWord.f k x0) (r0, r1)) :
    Calls Tryz.prog 9 #[.slice A0 x0.length c0] W fun e W' => ∃ R0 q0 ok0, e = .returned (.tuple #[.slice R0 r0.length q0, .int .i64 r1]) ∧ St w W' (obR (Kd.int .i64) 3 w ok0 (.slice R0 r0.length q0) r0 :: L) := by
  obtain ⟨K, hK⟩ := hE
  refine (spec_DrawComplementWord.calls K A0 c0 x0 r0 r1 W (Kd.C_below g0 h.below) l0 (hK K (Nat.le_refl _))).mono ?_
  rintro e W' ⟨v, rfl, hR, hB⟩
  obtain ⟨R, q, rfl⟩ := Kd.R_slice hR
  obtain ⟨ok, h1⟩ := h.addR hB hR
  exact ⟨R, q, ok, rfl, h1⟩
theorem spec_DrawParseWord_sx {w W : World} {L : List Ob} {A0 : Option Addr} {c0 : Nat} {x0 : List Int} {r0 : ByteArray} (h : St w W L) (g0 : Kd.C (Kd.int .u8) w A0 x0.length x0) (l0 : x0.length ≤ c0) (hE : Ev (fun k => spec_DrawParseWord.f k x0) r0) :
    Calls Tryz.prog 12 #[.slice A0 x0.length c0] W fun e W' => e = .returned (.string r0) ∧ St w W' (L) := by
  obtain ⟨K, hK⟩ := hE
  refine (spec_DrawParseWord.calls K A0 c0 x0 r0 W (Kd.C_below g0 h.below) l0 (hK K (Nat.le_refl _))).mono ?_
  rintro e W' ⟨rfl, hb⟩
  exact ⟨rfl, h.quiet (by first | exact hb | exact hb.below)⟩
end Go.Proofs.YtpandocpclecgaaGreatDoor.Q

set_option linter.unusedVariables false
set_option linter.unusedSimpArgs false
namespace Go.Proofs.YtpandocpclecgaaGreatDoor.Q
open Go.RowKit Go.Proofs.YtpandocpclecgaaGreatDoor.F Go.Proofs.YtpandocpclecgaaGreatDoorW.PrintWords Go.Proofs.YtpandocpclecgaaGreatDoorW.PrintLast Go.Proofs.YtpandocpclecgaaGreatDoorW.PrintMore
def above (x : Int) (l : List Int) : Nat := (l.filter (fun y => decide (y > x))).length
def invFrom (l : List Int) : Nat → Nat → Nat
  | 0, _ => 0
  | d + 1, i => above (rd l (i : Int)) (l.take i) + invFrom l d (i + 1)
def inversionCount (l : List Int) : Int := if isWord l then (invFrom l l.length 0 : Int) else -1
theorem above_le (x : Int) (l : List Int) : above x l ≤ l.length := List.length_filter_le _ _
theorem above_snoc (x y : Int) (l : List Int) : above x (l ++ [y]) = above x l + (if y > x then 1 else 0) := by
  unfold above
  rw [List.filter_append]
  by_cases h : y > x <;> simp [h]
theorem spec_Inv_l1 (l : List Int) (hl : l.length ≤ 9) (i m : Nat) (hi : i < l.length) (hm : m ≤ 9 * i) (r : Int)
    (hr : Ev (fun k => spec_InversionCount.l0 k l ((m + above (rd l (i : Int)) (l.take i) : Nat) : Int) ((i + 1 : Nat) : Int)) r) :
    ∀ (d j : Nat), j + d = i → Ev (fun k => spec_InversionCount.l1 k l ((m + above (rd l (i : Int)) (l.take j) : Nat) : Int) (i : Int) (j : Int)) r := by
  intro d
  induction d with
  | zero =>
    intro j h
    obtain rfl : j = i := by omega
    refine Ev.step (fun k => by rw [spec_InversionCount.l1]) ?_
    refine ev_neg (by omega) ?_
    rw [wrap_succ (by omega)]
    exact hr
  | succ d ih =>
    intro j h
    have hle := above_le (rd l (i : Int)) (l.take j)
    have hlt : (l.take j).length ≤ j := List.length_take_le _ _
    refine Ev.step (fun k => by rw [spec_InversionCount.l1]) ?_
    refine ev_pos (by omega) (ev_pos (by omega) (ev_pos (by omega) (ev_pos (by omega) (ev_pos (by omega) (ev_bindc (l1Bit_dec _) ?_)))))
    have := ih (j + 1) (by omega)
    rw [take_rd l j (by omega), above_snoc] at this
    rw [wrap_succ (by omega)]
    by_cases hd : rd l (j : Int) > rd l (i : Int)
    · rw [if_pos hd] at this ⊢
      rw [wrap_succ (by omega)]
      exact this
    · rw [if_neg hd] at this ⊢
      rw [Int.add_zero, wrap_nat (by omega)]
      exact this
theorem spec_Inv_l0 (l : List Int) (hl : l.length ≤ 9) : ∀ (d i m : Nat), i + d = l.length → m ≤ 9 * i → Ev (fun k => spec_InversionCount.l0 k l (m : Int) (i : Int)) ((m + invFrom l d i : Nat) : Int) := by
  intro d
  induction d with
  | zero => intro i m h hm; refine Ev.step (fun k => by rw [spec_InversionCount.l0]) ?_; exact ev_neg (by omega) (ev_val rfl)
  | succ d ih =>
    intro i m h hm
    refine Ev.step (fun k => by rw [spec_InversionCount.l0]) ?_
    refine ev_pos (by omega) ?_
    have hle := above_le (rd l (i : Int)) (l.take i)
    have hlt : (l.take i).length ≤ i := List.length_take_le _ _
    have := spec_Inv_l1 l hl i m (by omega) hm _ (ih (i + 1) (m + above (rd l (i : Int)) (l.take i)) (by omega) (by omega)) i 0 (by omega)
    rw [show above (rd l (i : Int)) (l.take 0) = 0 from by simp [above], Nat.add_zero] at this
    refine ev_eq this ?_
    rw [invFrom]; congr 1; omega
theorem spec_InversionCount_ev (l : List Int) (hl : l.length ≤ 1048576) : Ev (fun k => spec_InversionCount.f k l) (inversionCount l) := by
  unfold spec_InversionCount.f inversionCount
  refine Ev.bind (spec_IsWord_ev l hl) (ev_ite (fun hw => ?_) (fun hw => ev_val (by simp [hw])))
  rw [if_pos hw]
  have h9 := (isWord_iff.1 hw).1
  cases h : l.length with
  | zero => refine Ev.step (fun k => by rw [spec_InversionCount.l0]) ?_; exact ev_neg (by omega) (ev_val rfl)
  | succ d =>
    have := spec_Inv_l0 l h9 d 1 0 (by omega) (by omega)
    refine ev_eq this ?_
    rw [invFrom]; simp [above]
theorem impl_Inv_l1 (l : List Int) (hl : l.length ≤ 9) (i m : Nat) (hi : i < l.length) (hm : m ≤ 9 * i) (r : Int)
    (hr : Ev (fun k => impl_InversionCount.l0 k l ((m + above (rd l (i : Int)) (l.take i) : Nat) : Int) (l.length : Int) ((i + 1 : Nat) : Int)) r) :
    ∀ (d j : Nat), j + d = i → Ev (fun k => impl_InversionCount.l1 k l ((m + above (rd l (i : Int)) (l.take j) : Nat) : Int) (i : Int) (l.length : Int) (i : Int) (i : Int) (j : Int)) r := by
  intro d
  induction d with
  | zero =>
    intro j h
    obtain rfl : j = i := by omega
    refine Ev.step (fun k => by rw [impl_InversionCount.l1]) ?_
    refine ev_neg (by omega) ?_
    rw [wrap_succ (by omega)]
    exact hr
  | succ d ih =>
    intro j h
    have hle := above_le (rd l (i : Int)) (l.take j)
    have hlt : (l.take j).length ≤ j := List.length_take_le _ _
    refine Ev.step (fun k => by rw [impl_InversionCount.l1]) ?_
    refine ev_pos (by omega) (ev_pos (by omega) (ev_pos (by omega) (ev_pos (by omega) (ev_pos (by omega) ?_))))
    have := ih (j + 1) (by omega)
    rw [take_rd l j (by omega), above_snoc] at this
    rw [wrap_succ (by omega), wrap_succ (by omega)]
    refine ev_ite (fun hd => ?_) (fun hd => ?_)
    · rw [if_pos hd] at this; exact this
    · rw [if_neg hd] at this; exact this
theorem impl_Inv_l0 (l : List Int) (hl : l.length ≤ 9) : ∀ (d i m : Nat), i + d = l.length → m ≤ 9 * i → Ev (fun k => impl_InversionCount.l0 k l (m : Int) (l.length : Int) (i : Int)) ((m + invFrom l d i : Nat) : Int) := by
  intro d
  induction d with
  | zero => intro i m h hm; refine Ev.step (fun k => by rw [impl_InversionCount.l0]) ?_; exact ev_neg (by omega) (ev_val rfl)
  | succ d ih =>
    intro i m h hm
    refine Ev.step (fun k => by rw [impl_InversionCount.l0]) ?_
    refine ev_pos (by omega) ?_
    have hle := above_le (rd l (i : Int)) (l.take i)
    have hlt : (l.take i).length ≤ i := List.length_take_le _ _
    have := impl_Inv_l1 l hl i m (by omega) hm _ (ih (i + 1) (m + above (rd l (i : Int)) (l.take i)) (by omega) (by omega)) i 0 (by omega)
    rw [show above (rd l (i : Int)) (l.take 0) = 0 from by simp [above], Nat.add_zero] at this
    refine ev_eq this ?_
    rw [invFrom]; congr 1; omega
theorem impl_InversionCount_ev (l : List Int) (hl : l.length ≤ 1048576) : Ev (fun k => impl_InversionCount.f k l) (inversionCount l) := by
  unfold impl_InversionCount.f inversionCount
  refine ev_bindc (impl_IsWord_eq l) (ev_ite (fun hw => ?_) (fun hw => ev_val (by simp [hw])))
  rw [if_pos hw]
  have h9 := (isWord_iff.1 hw).1
  have := impl_Inv_l0 l h9 l.length 0 0 (by omega) (by omega)
  simpa using this
end Go.Proofs.YtpandocpclecgaaGreatDoor.Q

set_option linter.unusedVariables false
set_option linter.unusedSimpArgs false
namespace Go.Proofs.YtpandocpclecgaaGreatDoor.Q
open Go.RowKit Go.Proofs.YtpandocpclecgaaGreatDoor.F Go.Proofs.YtpandocpclecgaaGreatDoorW.PrintWords Go.Proofs.YtpandocpclecgaaGreatDoorW.PrintLast Go.Proofs.YtpandocpclecgaaGreatDoorW.PrintMore
def descents : Int → List Int → Nat
  | _, [] => 0
  | p, x :: l => (if p > x then 1 else 0) + descents x l
def descentCount (l : List Int) : Int := if isWord l then (match l with | [] => 0 | x :: l => (descents x l : Int)) else -1
theorem spec_DescentCount_l0 (l : List Int) (hl : l.length ≤ 1048576) : ∀ (d i m : Nat), i + 1 + d = l.length → m ≤ i → Ev (fun k => spec_DescentCount.l0 k l (m : Int) ((i + 1 : Nat) : Int)) ((m + descents (rd l (i : Int)) (l.drop (i + 1)) : Nat) : Int) := by
  intro d
  induction d with
  | zero =>
    intro i m h hm
    refine Ev.step (fun k => by rw [spec_DescentCount.l0]) ?_
    refine ev_neg (by omega) (ev_val ?_)
    rw [List.drop_of_length_le (by omega)]; rfl
  | succ d ih =>
    intro i m h hm
    have e : wrap64 (((i + 1 : Nat) : Int) - 1) = (i : Int) := by unfold wrap64; omega
    refine Ev.step (fun k => by rw [spec_DescentCount.l0]) ?_
    rw [e]
    refine ev_pos (by omega) (ev_pos (by omega) (ev_pos (by omega) (ev_pos (by omega) (ev_bindc (l1Bit_dec _) ?_))))
    rw [wrap_succ (by omega), drop_rd l (i + 1) (by omega), descents]
    by_cases hd : rd l (i : Int) > rd l ((i + 1 : Nat) : Int)
    · rw [if_pos hd, if_pos hd, wrap_succ (by omega)]
      refine ev_eq (ih (i + 1) (m + 1) (by omega) (by omega)) (by congr 1; omega)
    · rw [if_neg hd, if_neg hd, Int.add_zero, wrap_nat (by omega)]
      refine ev_eq (ih (i + 1) m (by omega) (by omega)) (by congr 1; omega)
theorem spec_DescentCount_ev (l : List Int) (hl : l.length ≤ 1048576) : Ev (fun k => spec_DescentCount.f k l) (descentCount l) := by
  unfold spec_DescentCount.f descentCount
  refine Ev.bind (spec_IsWord_ev l hl) (ev_ite (fun hw => ?_) (fun hw => ev_val (by simp [hw])))
  rw [if_pos hw]
  cases l with
  | nil => exact Ev.step (fun k => by rw [spec_DescentCount.l0]) (ev_neg (by simp) (ev_val rfl))
  | cons x l =>
    have := spec_DescentCount_l0 (x :: l) hl l.length 0 0 (by simp; omega) (by omega)
    simpa [rd] using this
theorem impl_DescentCount_l0 (l : List Int) (hl : l.length ≤ 1048576) : ∀ (d i m : Nat), i + 1 + d = l.length → m ≤ i → Ev (fun k => impl_DescentCount.l0 k l (m : Int) ((i + 1 : Nat) : Int)) ((m + descents (rd l (i : Int)) (l.drop (i + 1)) : Nat) : Int) := by
  intro d
  induction d with
  | zero =>
    intro i m h hm
    refine Ev.step (fun k => by rw [impl_DescentCount.l0]) ?_
    refine ev_neg (by omega) (ev_val ?_)
    rw [List.drop_of_length_le (by omega)]; rfl
  | succ d ih =>
    intro i m h hm
    have e : wrap64 (((i + 1 : Nat) : Int) - 1) = (i : Int) := by unfold wrap64; omega
    refine Ev.step (fun k => by rw [impl_DescentCount.l0]) ?_
    rw [e]
    refine ev_pos (by omega) (ev_pos (by omega) (ev_pos (by omega) (ev_pos (by omega) ?_)))
    rw [wrap_succ (by omega), drop_rd l (i + 1) (by omega), descents, wrap_succ (by omega)]
    refine ev_ite (fun hd => ?_) (fun hd => ?_)
    · rw [if_pos hd]
      exact ev_eq (ih (i + 1) (m + 1) (by omega) (by omega)) (by congr 1; omega)
    · rw [if_neg hd]
      exact ev_eq (ih (i + 1) m (by omega) (by omega)) (by congr 1; omega)
theorem impl_DescentCount_ev (l : List Int) (hl : l.length ≤ 1048576) : Ev (fun k => impl_DescentCount.f k l) (descentCount l) := by
  unfold impl_DescentCount.f descentCount
  refine ev_bindc (impl_IsWord_eq l) (ev_ite (fun hw => ?_) (fun hw => ev_val (by simp [hw])))
  rw [if_pos hw]
  cases l with
  | nil => exact Ev.step (fun k => by rw [impl_DescentCount.l0]) (ev_neg (by simp) (ev_val rfl))
  | cons x l =>
    have := impl_DescentCount_l0 (x :: l) hl l.length 0 0 (by simp; omega) (by omega)
    simpa [rd] using this
end Go.Proofs.YtpandocpclecgaaGreatDoor.Q

set_option linter.unusedVariables false
set_option linter.unusedSimpArgs false
namespace Go.Proofs.YtpandocpclecgaaGreatDoor.Q
open Go.RowKit Go.Proofs.YtpandocpclecgaaGreatDoor.F Go.Proofs.YtpandocpclecgaaGreatDoorW.PrintWords Go.Proofs.YtpandocpclecgaaGreatDoorW.PrintLast Go.Proofs.YtpandocpclecgaaGreatDoorW.PrintMore
def reverseWord (l : List Int) : List Int := if isWord l then l.reverse else []
theorem reverseWord_le (l : List Int) : (reverseWord l).length ≤ 9 := by
  unfold reverseWord
  split
  · rename_i h; rw [List.length_reverse]; exact (isWord_iff.1 h).1
  · simp
theorem slices_Reverse_ev (l : List Int) (hl : l.length ≤ 1048576) : Ev (fun k => slices_Reverse_int_int.f k l) l.reverse := by
  unfold slices_Reverse_int_int.f
  rw [wrap_id (by omega) (by omega)]
  have key : ∀ i, i ≤ l.length / 2 → ∀ x : List Int, x.length = l.length → (∀ j, j < l.length → rd x (j : Int) = if j < i ∨ l.length - 1 - i < j then rd l ((l.length - 1 - j : Nat) : Int) else rd l (j : Int)) →
      Ev (fun k => slices_Reverse_int_int.l0 k x (i : Int) ((l.length : Int) - 1 - i)) l.reverse := by
    refine downTo (l.length / 2) ?_ ?_
    · intro x hx hg
      refine Ev.step (fun k => by rw [slices_Reverse_int_int.l0]) ?_
      refine ev_neg (by omega) (ev_val (ext_rd (by simpa using hx) (fun j hj => ?_)))
      rw [rd_reverse l j (by omega), hg j (by omega)]
      split
      · rfl
      · congr 1; omega
    · intro i hi ih x hx hg
      have e1 : (l.length : Int) - 1 - i = ((l.length - 1 - i : Nat) : Int) := by omega
      refine Ev.step (fun k => by rw [slices_Reverse_int_int.l0]) ?_
      rw [e1]
      refine ev_pos (by omega) (ev_pos (by omega) (ev_pos (by omega) (ev_pos (by omega) (ev_pos (by omega) ?_))))
      rw [wrap_succ (by omega), wrap_id (by omega) (by omega), Int.toNat_natCast, Int.toNat_natCast]
      have e2 : (((l.length - 1 - i : Nat) : Int) - 1) = (l.length : Int) - 1 - ((i + 1 : Nat) : Int) := by omega
      rw [e2]
      refine ih _ (by simpa using hx) (fun j hj => ?_)
      rw [rd_set _ _ _ _ (by rw [List.length_set]; omega), rd_set _ _ _ _ (by omega)]
      by_cases h1 : l.length - 1 - i = j
      · rw [if_pos h1, if_pos (by omega), hg i (by omega), if_neg (by omega)]
        congr 1; omega
      · rw [if_neg h1]
        by_cases h2 : i = j
        · rw [if_pos h2, if_pos (by omega), hg _ (by omega), if_neg (by omega)]
          congr 1; omega
        · rw [if_neg h2, hg j hj]
          by_cases h3 : j < i ∨ l.length - 1 - i < j
          · rw [if_pos h3, if_pos (by omega)]
          · rw [if_neg h3, if_neg (by omega)]
  have := key 0 (by omega) l rfl (fun j hj => by rw [if_neg (by omega)])
  simpa using this
theorem impl_ReverseWord_ev (l : List Int) (hl : l.length ≤ 1048576) : Ev (fun k => impl_ReverseWord.f k l) (reverseWord l) := by
  unfold impl_ReverseWord.f reverseWord
  refine ev_bindc (impl_IsWord_eq l) (ev_ite (fun hw => ?_) (fun hw => ev_val (by rw [if_neg hw])))
  rw [if_pos hw]
  refine ev_bindc (b := l) (by unfold slices_Clone_int_int.f; rw [if_pos (by omega)]) ?_
  exact Ev.bind (slices_Reverse_ev l hl) (ev_val rfl)
theorem spec_ReverseWord_ev (l : List Int) (hl : l.length ≤ 1048576) : Ev (fun k => spec_ReverseWord.f k l) (reverseWord l) := by
  unfold spec_ReverseWord.f reverseWord
  by_cases hw : isWord l = true
  · rw [if_pos hw]
    have key : ∀ i, i ≤ l.length → Ev (fun k => spec_ReverseWord.l0 k l ((l.drop i).reverse) ((i : Int) - 1)) l.reverse := by
      intro i
      induction i with
      | zero =>
        intro _
        refine Ev.step (fun k => by rw [spec_ReverseWord.l0]) ?_
        exact ev_neg (by omega) (ev_val (by simp))
      | succ i ih =>
        intro hi
        refine Ev.step (fun k => by rw [spec_ReverseWord.l0]) ?_
        rw [show ((i + 1 : Nat) : Int) - 1 = (i : Int) by omega]
        refine ev_pos (by omega) (Ev.bind (spec_IsWord_ev l hl) (ev_pos hw (ev_pos (by omega) (ev_pos (by omega) (ev_pos (by simp; omega) ?_)))))
        rw [wrap_id (by omega) (by omega)]
        have := ih (by omega)
        rw [drop_rd l i (by omega), List.reverse_cons] at this
        exact this
    have := key l.length (by omega)
    rw [List.drop_length] at this
    rw [wrap_id (by omega) (by omega)]
    exact this
  · rw [if_neg hw, wrap_id (by omega) (by omega)]
    have hne : l ≠ [] := fun e => hw (by rw [e]; rfl)
    have hpos : 0 < l.length := List.length_pos_iff.2 hne
    refine Ev.step (fun k => by rw [spec_ReverseWord.l0]) ?_
    exact ev_pos (by omega) (Ev.bind (spec_IsWord_ev l hl) (ev_neg hw (ev_val rfl)))
end Go.Proofs.YtpandocpclecgaaGreatDoor.Q

set_option linter.unusedVariables false
set_option linter.unusedSimpArgs false
namespace Go.Proofs.YtpandocpclecgaaGreatDoor.Q
open Go.RowKit Go.Proofs.YtpandocpclecgaaGreatDoor.F Go.Proofs.YtpandocpclecgaaGreatDoorW.PrintWords Go.Proofs.YtpandocpclecgaaGreatDoorW.PrintLast Go.Proofs.YtpandocpclecgaaGreatDoorW.PrintMore
theorem complement_isWord (l : List Int) (n : Int) : complement l n = if isWord l && decide (1 ≤ n ∧ n ≤ 9) && !l.any (fun x => decide (x > n)) then (l.map (fun x => n + 1 - x), true) else ([], false) := by
  have e : (decide (l.length ≤ 9) && !l.any (fun x => !decide (1 ≤ x ∧ x ≤ 9))) = isWord l := by
    have := impl_IsWord_eq l
    unfold impl_IsWord.f at this
    exact Option.some.inj this
  unfold complement
  rw [e]
theorem complement_le (l : List Int) (n : Int) : (complement l n).1.length ≤ 9 := by
  rw [complement_isWord]
  split
  · rename_i h
    simp only [Bool.and_eq_true] at h
    simpa using (isWord_iff.1 h.1.1).1
  · simp
theorem spec_ComplementWord_ev (l : List Int) (n : Int) (hl : l.length ≤ 1048576) : Ev (fun k => spec_ComplementWord.f k l n) (complement l n) := by
  rw [complement_isWord]
  unfold spec_ComplementWord.f
  refine ev_bindc rfl (Ev.bind (spec_IsWord_ev l hl) (ev_ite (fun hw => ?_) (fun hw => ?_)))
  · refine ev_bindc (spec_l1In_eq _ _ _) (Ev.step (fun k => by rw [spec_ComplementWord.j0]) ?_)
    rw [hw, Bool.true_and]
    have h9 := isWord_iff.1 hw
    by_cases hn : 1 ≤ n ∧ n ≤ 9
    · rw [decide_eq_true hn, Bool.true_and]
      refine ev_neg (by simp) ?_
      by_cases ha : l.any (fun x => decide (x > n)) = true
      · rw [if_neg (by rw [ha]; simp)]
        have key : ∀ i, i ≤ l.length → ∀ acc : List Int, acc.length ≤ i → (l.drop i).any (fun x => decide (x > n)) = true → Ev (fun k => spec_ComplementWord.l0 k l n acc (i : Int)) ([], false) := by
          refine downTo l.length ?_ ?_
          · intro acc _ h; rw [List.drop_length] at h; simp at h
          · intro i hi ih acc hacc h
            refine Ev.step (fun k => by rw [spec_ComplementWord.l0]) ?_
            refine ev_pos (by omega) (ev_pos (by omega) (ev_ite (fun hc => ev_val rfl) (fun hc => ev_pos (by omega) ?_)))
            rw [wrap_succ (by omega)]
            refine ih _ (by simp; omega) ?_
            rw [drop_rd l i hi, List.any_cons, decide_eq_false hc, Bool.false_or] at h
            exact h
        exact key 0 (by omega) [] (by simp) (by simpa using ha)
      · simp only [Bool.not_eq_true] at ha
        rw [if_pos (by rw [ha]; rfl)]
        have hle : ∀ x ∈ l, x ≤ n := by
          intro x hx
          have := List.any_eq_false.1 ha x hx
          simpa using this
        have key : ∀ i, i ≤ l.length → Ev (fun k => spec_ComplementWord.l0 k l n ((l.take i).map (fun x => n + 1 - x)) (i : Int)) (l.map (fun x => n + 1 - x), true) := by
          refine downTo l.length ?_ ?_
          · refine Ev.step (fun k => by rw [spec_ComplementWord.l0]) ?_
            refine ev_neg (by omega) (ev_val (by rw [List.take_length]))
          · intro i hi ih
            have hm := rd_mem l i hi
            have b1 := h9.2 _ hm
            have b2 := hle _ hm
            refine Ev.step (fun k => by rw [spec_ComplementWord.l0]) ?_
            refine ev_pos (by omega) (ev_pos (by omega) (ev_neg (by omega) (ev_pos (by simp; omega) ?_)))
            rw [wrap_succ (by omega), wrap_id (i := n + 1) (by omega) (by omega), wrap_id (by omega) (by omega)]
            rw [take_rd l i hi, List.map_append] at ih
            exact ih
        exact key 0 (by omega)
    · rw [decide_eq_false hn]
      exact ev_pos rfl (ev_val rfl)
  · simp only [Bool.not_eq_true] at hw
    refine Ev.step (fun k => by rw [spec_ComplementWord.j0]) ?_
    refine ev_pos rfl (ev_val ?_)
    rw [hw]; rfl
theorem impl_ComplementWord_eq (l : List Int) (n : Int) : impl_ComplementWord.f l n = some (complement l n) := rfl
end Go.Proofs.YtpandocpclecgaaGreatDoor.Q

set_option linter.unusedVariables false
set_option linter.unusedSimpArgs false
namespace Go.Proofs.YtpandocpclecgaaGreatDoor.Q
open Go.RowKit Go.Proofs.YtpandocpclecgaaGreatDoor.F Go.Proofs.YtpandocpclecgaaGreatDoorW.PrintWords Go.Proofs.YtpandocpclecgaaGreatDoorW.PrintLast Go.Proofs.YtpandocpclecgaaGreatDoorW.PrintMore
def digits (s : ByteArray) : List Int := (List.range s.size).map (fun (i : Nat) => bt s (i : Int) - 48)
theorem digits_length (s : ByteArray) : (digits s).length = s.size := by simp [digits]
theorem digits_take (s : ByteArray) (i : Nat) (h : i < s.size) : (digits s).take (i + 1) = (digits s).take i ++ [bt s (i : Int) - 48] := by
  rw [List.take_succ_eq_append_getElem (by rw [digits_length]; exact h)]
  congr 2
  simp [digits]
theorem digit_wrap (s : ByteArray) (i : Int) : wrap64 ((wrap64 (bt s i)) - 48) = bt s i - 48 := by
  have := bt_range s i
  have e : wrap64 (bt s i) = bt s i := wrap_id (by omega) (by omega)
  rw [e, wrap_id (by omega) (by omega)]
def parseEnd (s : ByteArray) (w : List Int) : List Int × Bool := if (wordText w).toList = s.toList then (w, true) else ([], false)
def parse (s : ByteArray) : List Int × Bool := parseEnd s (if s.toList = [45] then [] else digits s)
theorem parse_le (s : ByteArray) (hs : s.size ≤ 1048576) : (parse s).1.length ≤ 1048576 := by
  unfold parse parseEnd
  by_cases h : s.toList = [45]
  · rw [if_pos h]
    split <;> simp
  · rw [if_neg h]
    split
    · dsimp only
      rw [digits_length]; exact hs
    · simp
theorem spec_parse_l0 (s : ByteArray) (hs : s.size ≤ 1048576) (h : s.toList ≠ [45]) : ∀ (d i : Nat), i + d = s.size → Ev (fun k => spec_ParseWord.l0 k s ((digits s).take i) (i : Int)) (parseEnd s (digits s))
  | 0, i, hi => by
    refine Ev.step (fun k => by rw [spec_ParseWord.l0]) ?_
    rw [List.take_of_length_le (by rw [digits_length]; omega)]
    refine ev_neg (by omega) (Ev.bind (spec_WordText_ev _ (by rw [digits_length]; exact hs)) ?_)
    unfold parseEnd
    exact ev_ite (fun h1 => ev_val (by rw [if_pos h1])) (fun h1 => ev_val (by rw [if_neg h1]))
  | d + 1, i, hi => by
    refine Ev.step (fun k => by rw [spec_ParseWord.l0]) ?_
    refine ev_pos (by omega) (ev_neg h (ev_pos (by omega) (ev_pos (by rw [List.length_take, digits_length]; omega) ?_)))
    rw [digit_wrap, ← digits_take s i (by omega), wrap_succ (by omega)]
    exact spec_parse_l0 s hs h d (i + 1) (by omega)
theorem spec_ParseWord_ev (s : ByteArray) (hs : s.size ≤ 1048576) : Ev (fun k => spec_ParseWord.f k s) (parse s) := by
  unfold spec_ParseWord.f parse
  by_cases h : s.toList = [45]
  · rw [if_pos h]
    have hz : s.size = 1 := by
      have e := congrArg List.length h
      rw [ByteArray.toList_eq] at e
      simpa using e
    refine Ev.step (fun k => by rw [spec_ParseWord.l0]) ?_
    refine ev_pos (by omega) (ev_pos h (Ev.bind (spec_WordText_ev [] (by simp)) ?_))
    unfold parseEnd
    exact ev_ite (fun h1 => ev_val (by rw [if_pos h1])) (fun h1 => ev_val (by rw [if_neg h1]))
  · rw [if_neg h]
    exact spec_parse_l0 s hs h s.size 0 (by omega)
theorem impl_parse_l0 (s : ByteArray) (hs : s.size ≤ 1048576) : ∀ (d i : Nat), i + d = s.size → Ev (fun k => impl_ParseWord.l0 k s ((digits s).take i) (s.size : Int) (i : Int)) (parseEnd s (digits s))
  | 0, i, hi => by
    refine Ev.step (fun k => by rw [impl_ParseWord.l0]) ?_
    rw [List.take_of_length_le (by rw [digits_length]; omega)]
    refine ev_neg (by omega) (Ev.bind (impl_WordText_ev _) ?_)
    unfold parseEnd
    exact ev_ite (fun h1 => ev_val (by rw [if_pos h1])) (fun h1 => ev_val (by rw [if_neg h1]))
  | d + 1, i, hi => by
    refine Ev.step (fun k => by rw [impl_ParseWord.l0]) ?_
    refine ev_pos (by omega) (ev_pos (by omega) (ev_pos (by omega) (ev_pos (by rw [List.length_take, digits_length]; omega) ?_)))
    rw [digit_wrap, ← digits_take s i (by omega), wrap_succ (by omega)]
    exact impl_parse_l0 s hs d (i + 1) (by omega)
theorem impl_ParseWord_ev (s : ByteArray) (hs : s.size ≤ 1048576) : Ev (fun k => impl_ParseWord.f k s) (parse s) := by
  unfold impl_ParseWord.f parse
  refine ev_bindc rfl (ev_ite (fun h => ?_) (fun h => ?_))
  · rw [if_pos h]
    refine Ev.bind (impl_WordText_ev []) ?_
    unfold parseEnd
    exact ev_ite (fun h1 => ev_val (by rw [if_pos h1])) (fun h1 => ev_val (by rw [if_neg h1]))
  · rw [if_neg h]
    exact impl_parse_l0 s hs s.size 0 (by omega)
end Go.Proofs.YtpandocpclecgaaGreatDoor.Q

set_option linter.unusedVariables false
set_option linter.unusedSimpArgs false
namespace Go.Proofs.YtpandocpclecgaaGreatDoor.Q
open Go.RowKit Go.Proofs.YtpandocpclecgaaGreatDoor.F Go.Proofs.YtpandocpclecgaaGreatDoorW.PrintWords Go.Proofs.YtpandocpclecgaaGreatDoorW.PrintLast Go.Proofs.YtpandocpclecgaaGreatDoorW.PrintMore
theorem places_above {l : List Int} {i j : Nat} (hij : i < j) (hj : j < l.length) : rd (places l) (i : Int) > rd (places l) (j : Int) ↔ rd l (i : Int) > rd l (j : Int) := by
  rw [places_get l i (by omega), places_get l j hj]
  unfold placeOf
  constructor
  · intro h
    rcases Int.lt_or_le (rd l (j : Int)) (rd l (i : Int)) with h1 | h1
    · exact h1
    · have := placeTo_lt (l := l) (i := i) (i' := j) (by omega) l.length
      rw [if_pos (by omega)] at this
      omega
  · intro h
    have := placeTo_lt (l := l) (i := j) (i' := i) (.inl h) l.length
    rw [if_pos hj] at this
    omega
theorem places_pos {l : List Int} : ∀ x ∈ places l, 1 ≤ x := by
  intro x hx
  obtain ⟨i, hi, rfl⟩ := mem_rd hx
  rw [places_length] at hi
  rw [places_get l i hi]
  exact (placeOf_bd l i hi).1
theorem places_once (l : List Int) : places (places l) = places l := by
  rw [places_iff places_pos, once_iff places_pos]
  refine ⟨nodup_rd (fun i j hij hj he => ?_), fun x hx => ?_⟩
  · rw [places_length] at hj
    rcases Int.lt_or_le (rd l (j : Int)) (rd l (i : Int)) with h1 | h1
    · have := (places_above hij hj).2 h1
      omega
    · rw [places_get l i (by omega), places_get l j hj] at he
      have := placeTo_lt (l := l) (i := i) (i' := j) (by omega) l.length
      rw [if_pos (by omega)] at this
      unfold placeOf at he
      omega
  · obtain ⟨i, hi, rfl⟩ := mem_rd hx
    rw [places_length] at hi ⊢
    rw [places_get l i hi]
    exact (placeOf_bd l i hi).2
theorem places_isWord {l : List Int} (h : isWord l = true) : isWord (places l) = true := by
  obtain ⟨h1, h2⟩ := isWord_iff.1 h
  refine isWord_iff.2 ⟨by rw [places_length]; exact h1, fun x hx => ⟨places_pos x hx, ?_⟩⟩
  obtain ⟨i, hi, rfl⟩ := mem_rd hx
  rw [places_length] at hi
  rw [places_get l i hi]
  have := (placeOf_bd l i hi).2
  omega
theorem standardize_twice {l : List Int} (h : isWord l = true) : standardize (standardize l) = standardize l := by
  unfold standardize
  rw [if_pos h, if_pos (places_isWord h), places_once]
theorem above_places {l : List Int} {i : Nat} (hi : i < l.length) : ∀ j, j ≤ i → above (rd (places l) (i : Int)) ((places l).take j) = above (rd l (i : Int)) (l.take j) := by
  intro j
  induction j with
  | zero => intro _; simp [above]
  | succ j ih =>
    intro hj
    rw [take_rd l j (by omega), take_rd _ j (by rw [places_length]; omega), above_snoc, above_snoc, ih (by omega)]
    congr 1
    by_cases h : rd l (j : Int) > rd l (i : Int)
    · rw [if_pos h, if_pos ((places_above (by omega) hi).2 h)]
    · rw [if_neg h, if_neg (fun h2 => h ((places_above (by omega) hi).1 h2))]
theorem inv_places {l : List Int} : ∀ (d i : Nat), i + d ≤ l.length → invFrom (places l) d i = invFrom l d i
  | 0, _, _ => rfl
  | d + 1, i, h => by rw [invFrom, invFrom, above_places (by omega) i (Nat.le_refl _), inv_places d (i + 1) (by omega)]
theorem inversionCount_places {l : List Int} (h : isWord l = true) : inversionCount (standardize l) = inversionCount l := by
  unfold inversionCount standardize
  rw [if_pos h, if_pos h, if_pos (places_isWord h), places_length, inv_places _ _ (by omega)]
theorem descents_places {l : List Int} : ∀ (d i : Nat), i + 1 + d = l.length → descents (rd (places l) (i : Int)) ((places l).drop (i + 1)) = descents (rd l (i : Int)) (l.drop (i + 1))
  | 0, i, h => by
    rw [List.drop_of_length_le (by rw [places_length]; omega), List.drop_of_length_le (by omega)]; rfl
  | d + 1, i, h => by
    rw [drop_rd l (i + 1) (by omega), drop_rd _ (i + 1) (by rw [places_length]; omega), descents, descents, descents_places d (i + 1) (by omega)]
    congr 1
    by_cases hd : rd l (i : Int) > rd l ((i + 1 : Nat) : Int)
    · rw [if_pos hd, if_pos ((places_above (by omega) (by omega)).2 hd)]
    · rw [if_neg hd, if_neg (fun h2 => hd ((places_above (by omega) (by omega)).1 h2))]
theorem descentCount_rd (l : List Int) : descentCount l = if isWord l then (if l.length = 0 then 0 else (descents (rd l 0) (l.drop 1) : Int)) else -1 := by
  unfold descentCount
  cases l with
  | nil => rfl
  | cons x l => simp [rd]
theorem descentCount_places {l : List Int} (h : isWord l = true) : descentCount (standardize l) = descentCount l := by
  unfold standardize
  rw [if_pos h, descentCount_rd, descentCount_rd, if_pos h, if_pos (places_isWord h), places_length]
  by_cases h0 : l.length = 0
  · rw [if_pos h0, if_pos h0]
  · rw [if_neg h0, if_neg h0]
    have := descents_places (l := l) (l.length - 1) 0 (by omega)
    simp only [Nat.zero_add, Int.natCast_zero] at this
    exact congrArg (fun n : Nat => (n : Int)) this
theorem complement_twice {l x : List Int} {n : Int} (h : complement l n = (x, true)) : complement x n = (l, true) := by
  rw [complement_isWord] at h
  by_cases hc : (isWord l && decide (1 ≤ n ∧ n ≤ 9) && !l.any (fun x => decide (x > n))) = true
  · rw [if_pos hc] at h
    obtain rfl : l.map (fun x => n + 1 - x) = x := congrArg Prod.fst h
    simp only [Bool.and_eq_true, decide_eq_true_eq, Bool.not_eq_true'] at hc
    obtain ⟨⟨hw, hn⟩, ha⟩ := hc
    obtain ⟨h1, h2⟩ := isWord_iff.1 hw
    have h3 : ∀ x ∈ l, x ≤ n := by
      intro x hx
      have := List.any_eq_false.1 ha x hx
      simpa using this
    have hw2 : isWord (l.map (fun x => n + 1 - x)) = true := by
      refine isWord_iff.2 ⟨by simpa using h1, fun y hy => ?_⟩
      obtain ⟨x, hx, rfl⟩ := List.mem_map.1 hy
      have := h2 x hx
      have := h3 x hx
      omega
    have ha2 : (l.map (fun x => n + 1 - x)).any (fun x => decide (x > n)) = false := by
      rw [List.any_eq_false]
      intro y hy
      obtain ⟨x, hx, rfl⟩ := List.mem_map.1 hy
      have := h2 x hx
      simp; omega
    have e : (l.map (fun x => n + 1 - x)).map (fun x => n + 1 - x) = l := by
      rw [List.map_map]
      conv => rhs; rw [← List.map_id l]
      apply List.map_congr_left
      intro x _
      simp; omega
    rw [complement_isWord, hw2, ha2, decide_eq_true hn, e]
    rfl
  · rw [if_neg hc] at h
    have := congrArg Prod.snd h
    simp at this
theorem reverse_twice {l : List Int} (h : isWord l = true) : reverseWord (reverseWord l) = l := by
  have hr : isWord l.reverse = true := by
    obtain ⟨h1, h2⟩ := isWord_iff.1 h
    exact isWord_iff.2 ⟨by simpa using h1, fun x hx => h2 x (by simpa using hx)⟩
  unfold reverseWord
  rw [if_pos h, if_pos hr, List.reverse_reverse]
theorem tx_list (x : List Int) : (tx x).toList = x.map (fun v => UInt8.ofNat (48 + v).toNat) := by
  rw [ByteArray.toList_eq]
  unfold tx strOfNums
  simp
theorem digits_tx {x : List Int} (h : ∀ v ∈ x, 1 ≤ v ∧ v ≤ 9) : digits (tx x) = x := by
  refine ext_rd (by rw [digits_length, tx_size]) (fun i hi => ?_)
  rw [digits_length, tx_size] at hi
  have hv := h _ (rd_mem x i hi)
  rw [rd_eq _ i (by rw [digits_length, tx_size]; exact hi), rd_eq x i hi]
  rw [rd_eq x i hi] at hv
  have hb : i < (tx x).size := by rw [tx_size]; exact hi
  have e : bt (tx x) (i : Int) = 48 + x[i] := by
    unfold bt
    rw [dif_pos (by rw [Int.toNat_natCast]; exact hb)]
    have e2 : (tx x)[i]'hb = UInt8.ofNat (48 + x[i]).toNat := by
      have h3 : (tx x).data.toList = x.map (fun v => UInt8.ofNat (48 + v).toNat) := by rw [← ByteArray.toList_eq]; exact tx_list x
      have h4 : (tx x).data.toList[i]? = some (UInt8.ofNat (48 + x[i]).toNat) := by rw [h3, List.getElem?_map, List.getElem?_eq_getElem hi]; rfl
      rw [Array.getElem?_toList] at h4
      exact (Array.getElem?_eq_some_iff.1 h4).2
    have e3 : (tx x)[(i : Int).toNat]'(by rw [Int.toNat_natCast]; exact hb) = UInt8.ofNat (48 + x[i]).toNat := e2
    rw [e3]
    have : (48 + x[i]).toNat < 256 := by omega
    rw [UInt8.toNat_ofNat', Nat.mod_eq_of_lt this]
    omega
  simp only [digits, List.getElem_map, List.getElem_range]
  rw [e]; omega
theorem parse_text (w : List Int) : parse (wordText w) = if isWord w then (w, true) else ([], false) := by
  have e0 : (wordText []).toList = [45] := by rw [ByteArray.toList_eq]; rfl
  by_cases h : isWord w = true
  · rw [if_pos h]
    obtain ⟨h1, h2⟩ := isWord_iff.1 h
    by_cases h0 : w.length = 0
    · obtain rfl := List.length_eq_zero_iff.1 h0
      unfold parse parseEnd
      rw [if_pos e0, if_pos rfl]
    · have e : wordText w = tx w := by unfold wordText; rw [if_pos h, if_neg h0]
      have hne : (tx w).toList ≠ [45] := by
        rw [tx_list]
        cases w with
        | nil => simp at h0
        | cons v w =>
          have := h2 v (by simp)
          intro hh
          simp only [List.map_cons, List.cons.injEq] at hh
          have h3 := congrArg UInt8.toNat hh.1
          rw [UInt8.toNat_ofNat', Nat.mod_eq_of_lt (by omega)] at h3
          have h4 : (45 : UInt8).toNat = 45 := rfl
          omega
      unfold parse parseEnd
      rw [e, if_neg hne, digits_tx h2, e, if_pos rfl]
  · rw [if_neg h]
    have e : wordText w = ⟨#[]⟩ := by unfold wordText; rw [if_neg h]
    have e1 : (⟨#[]⟩ : ByteArray).toList = [] := by rw [ByteArray.toList_eq]
    have e2 : digits ⟨#[]⟩ = [] := by rfl
    unfold parse parseEnd
    rw [e, e1, if_neg (show ¬ ([] : List UInt8) = [45] by simp), e2, e0, if_neg (by simp)]
end Go.Proofs.YtpandocpclecgaaGreatDoor.Q

set_option linter.unusedVariables false
set_option linter.unusedSimpArgs false
namespace Go.Proofs.YtpandocpclecgaaGreatDoor.Q
open Go.RowKit Go.Proofs.YtpandocpclecgaaGreatDoor.F Go.Proofs.YtpandocpclecgaaGreatDoorW.PrintWords Go.Proofs.YtpandocpclecgaaGreatDoorW.PrintLast Go.Proofs.YtpandocpclecgaaGreatDoorW.PrintMore
def isLattice (l : List Int) : Bool := isWord l && (latRun lat0 l.reverse).isSome
theorem impl_IsLattice_eq (l : List Int) : impl_IsLattice.f l = some (isLattice l) := by
  unfold impl_IsLattice.f isLattice
  rw [impl_IsWord_eq]; rfl
def Lat2 (cs es : List Int) : Prop := cs.length = 10 ∧ es.length = 11 ∧ ∀ j : Nat, j ≤ 9 → rd es (j : Int) = rd cs (j : Int)
theorem Lat2.set {cs es : List Int} (h : Lat2 cs es) (i : Nat) (hi : i ≤ 9) (v : Int) : Lat2 (cs.set i v) (es.set i v) := by
  obtain ⟨h1, h2, h3⟩ := h
  refine ⟨by rw [List.length_set, h1], by rw [List.length_set, h2], fun j hj => ?_⟩
  rw [rd_set es i j v (by omega), rd_set cs i j v (by omega), h3 j hj]
theorem spec_IsLattice_l0 (l : List Int) (hl : l.length ≤ 1048576) (hw : isWord l = true) : ∀ (i : Nat), i ≤ l.length → ∀ cs es, Lat2 cs es → Ev (fun k => spec_IsLattice.l0 k l es ((i : Int) - 1)) (latRun cs (l.take i).reverse).isSome := by
  intro i
  induction i with
  | zero =>
    intro _ cs es _
    refine Ev.step (fun k => by rw [spec_IsLattice.l0]) ?_
    refine ev_neg (by omega) ?_
    refine Ev.step (fun k => by rw [spec_IsLattice.j1]) ?_
    refine ev_neg (by simp) (Ev.bind (spec_IsWord_ev l hl) (ev_val ?_))
    rw [hw, List.take_zero]; rfl
  | succ i ih =>
    intro hi cs es h
    obtain ⟨h9, hall⟩ := isWord_iff.1 hw
    have hx := hall _ (rd_mem l i (by omega))
    have e1 : (((i + 1 : Nat) : Int) - 1) = (i : Int) := by omega
    rw [e1, take_rd l i (by omega), List.reverse_append, List.reverse_cons, List.reverse_nil, List.nil_append, List.singleton_append, latRun]
    obtain ⟨n, hn⟩ : ∃ n : Nat, rd l (i : Int) = (n : Int) := ⟨(rd l (i : Int)).toNat, by omega⟩
    rw [hn] at hx ⊢
    have hn9 : n ≤ 9 := by omega
    have e2 : wrap64 ((n : Int) - 1) = ((n - 1 : Nat) : Int) := by unfold wrap64; omega
    have e3 : ((n : Int) - 1) = ((n - 1 : Nat) : Int) := by omega
    have e4 : wrap64 ((i : Int) - 1) = (i : Int) - 1 := by unfold wrap64; omega
    have hs := h.set n hn9 (wrap64 (rd es (n : Int) + 1))
    refine Ev.step (fun k => by rw [spec_IsLattice.l0]) ?_
    refine ev_pos (by omega) (Ev.bind (spec_IsWord_ev l hl) ?_)
    rw [hw]
    refine Ev.step (fun k => by rw [spec_IsLattice.j1]) ?_
    rw [hn, Int.toNat_natCast, e2, e4]
    have h11 := h.2.1
    refine ev_pos rfl (ev_pos (by omega) (ev_pos (by omega) (ev_pos (by omega) (ev_pos (by omega) (ev_bindc rfl ?_)))))
    unfold latStep
    rw [Int.toNat_natCast, e3, ← h.2.2 n hn9, ← hs.2.2 n hn9, ← hs.2.2 (n - 1) (by omega)]
    refine ev_ite (fun h1 => ev_pos (by omega) (ev_pos (by omega) (ev_ite (fun h2 => ev_val ?_) (fun h2 => ?_)))) (fun h1 => ?_)
    · rw [if_pos ⟨h1, h2⟩]; rfl
    · rw [if_neg (fun h => h2 h.2)]; exact ih (by omega) _ _ hs
    · rw [if_neg (fun h => h1 h.1)]; exact ih (by omega) _ _ hs
theorem spec_IsLattice_l0_not (l : List Int) (hl : l.length ≤ 1048576) (hw : isWord l = false) (es : List Int) (i : Int) : Ev (fun k => spec_IsLattice.l0 k l es i) false := by
  refine Ev.step (fun k => by rw [spec_IsLattice.l0]) ?_
  have hj : Ev (fun k => spec_IsLattice.j1 k l es i false) false := by
    refine Ev.step (fun k => by rw [spec_IsLattice.j1]) ?_
    refine ev_neg (by simp) (Ev.bind (spec_IsWord_ev l hl) (ev_val hw))
  refine ev_ite (fun _ => Ev.bind (spec_IsWord_ev l hl) ?_) (fun _ => hj)
  rw [hw]; exact hj
theorem spec_IsLattice_ev (l : List Int) (hl : l.length ≤ 1048576) : Ev (fun k => spec_IsLattice.f k l) (isLattice l) := by
  unfold spec_IsLattice.f isLattice
  refine ev_pos (by decide) ?_
  have e : wrap64 ((l.length : Int) - 1) = ((l.length : Nat) : Int) - 1 := by unfold wrap64; omega
  rw [e]
  cases hw : isWord l with
  | false => exact spec_IsLattice_l0_not l hl hw _ _
  | true =>
    rw [Bool.true_and]
    have h := spec_IsLattice_l0 l hl hw l.length (Nat.le_refl _) lat0 (List.replicate 11 0) ⟨rfl, rfl, fun j hj => by
      have h : ∀ j : Fin 10, rd (List.replicate 11 (0 : Int)) ((j.1 : Nat) : Int) = rd lat0 ((j.1 : Nat) : Int) := by decide
      exact h ⟨j, by omega⟩⟩
    rwa [List.take_length] at h
end Go.Proofs.YtpandocpclecgaaGreatDoor.Q

set_option linter.unusedVariables false
set_option linter.unusedSimpArgs false
namespace Go.Proofs.YtpandocpclecgaaGreatDoor.Q
open Go.RowKit Go.Proofs.YtpandocpclecgaaGreatDoor.F Go.Proofs.YtpandocpclecgaaGreatDoorW.PrintWords Go.Proofs.YtpandocpclecgaaGreatDoorW.PrintLast Go.Proofs.YtpandocpclecgaaGreatDoorW.PrintMore
theorem sameInts_l0 (a : List Int) (hb : a.length ≤ 1048576) : ∀ (d i : Nat), i + d = a.length → Ev (fun k => laws_sameInts.l0 k a a (i : Int)) true
  | 0, i, h => Ev.step (fun k => by rw [laws_sameInts.l0]) (ev_neg (by omega) (ev_val rfl))
  | d + 1, i, h => by
    refine Ev.step (fun k => by rw [laws_sameInts.l0]) (ev_pos (by omega) (ev_pos (by omega) (ev_pos (by omega) (ev_pos rfl ?_))))
    rw [wrap_succ (by omega)]
    exact sameInts_l0 a hb d (i + 1) (by omega)
theorem sameInts_ev (a : List Int) (hb : a.length ≤ 1048576) : Ev (fun k => laws_sameInts.f k a a) true := by
  unfold laws_sameInts.f
  exact ev_pos rfl (sameInts_l0 a hb a.length 0 (by omega))
def lw13.T : Bool × List (List Nat × List Nat) := (true, [([], []), ([], []), ([1], [1]), ([0, 2, 2], [0, 2]), ([3], [3]), ([4, 3], [4]), ([5], [5]), ([6, 5, 5], [5, 6]), ([5], [5]), ([8, 7, 5], [5, 8]), ([7, 9, 9, 5], [5, 7, 9]), ([10, 5], [5, 10]), ([5, 11], [5, 11]), ([12, 10], [12]), ([13], [13]), ([14, 13, 13], [13, 14]), ([13], [13]), ([16, 15, 13], [13, 16]), ([15, 17, 13], [13, 15, 17]), ([13, 18], [13, 18]), ([19, 17], [19]), ([20], [20]), ([20], [20]), ([21, 22, 20], [20, 21, 22]), ([20, 23], [20, 23]), ([24, 20], [24]), ([25], [25]), ([25], [25]), ([26, 27, 25, 25], [25, 26, 27]), ([28, 25], [25, 28]), ([25, 29], [25, 29]), ([30, 28], [30]), ([31], [31]), ([31], [31]), ([32, 33, 31], [31, 32, 33]), ([31, 34], [31, 34]), ([35, 31], [35]), ([36], [36]), ([36], [36]), ([37, 38, 36, 36], [36, 37, 38]), ([39, 36], [36, 39]), ([36, 40], [36, 40]), ([41, 39], [41]), ([42], [42]), ([43, 42, 42], [42, 43]), ([42], [42]), ([45, 44, 42], [42, 45]), ([44, 46, 42], [42, 44, 46]), ([42, 47], [42, 47]), ([48, 46], [48]), ([49], [49]), ([50, 49, 49], [49, 50]), ([49], [49]), ([52, 51, 49], [49, 52]), ([51, 53, 49], [49, 51, 53]), ([49, 54], [49, 54]), ([55, 53], [55]), ([56], [56]), ([57, 56, 56], [56, 57]), ([56], [56]), ([59, 58, 56], [56, 59]), ([58, 60, 56], [56, 58, 60]), ([56, 61], [56, 61]), ([62, 60], [62]), ([63], [63]), ([64, 63, 63], [63, 64]), ([63], [63]), ([66, 65, 63], [63, 66]), ([65, 67, 67, 63], [63, 65, 67]), ([68, 63], [63, 68]), ([63, 69], [63, 69])])
def lw13.B : List Nat := [0, 0, 2, 7, 15, 31, 63, 127, 63, 511, 1023, 2047, 4095, 8191, 16383, 32767, 16383, 131071, 262143, 524287, 1048575, 2097151, 2097151, 8388607, 16777215, 33554431, 67108863, 67108863, 268435455, 536870911, 1073741823, 2147483647, 4294967295, 4294967295, 17179869183, 34359738367, 68719476735, 137438953471, 137438953471, 549755813887, 1099511627775, 2199023255551, 4398046511103, 8796093022207, 17592186044415, 8796093022207, 70368744177663, 140737488355327, 281474976710655, 562949953421311, 1125899906842623, 2251799813685247, 1125899906842623, 9007199254740991, 18014398509481983, 36028797018963967, 72057594037927935, 144115188075855871, 288230376151711743, 144115188075855871, 1152921504606846975, 2305843009213693951, 4611686018427387903, 9223372036854775807, 18446744073709551615, 36893488147419103231, 18446744073709551615, 147573952589676412927, 295147905179352825855, 590295810358705651711, 1180591620717411303423]
theorem lw13.tab : rtab .any (opsOf Tryz.f3 13) = lw13.T := by kernel_rfl
theorem lw13.bits : waitsOk lw13.T.2 lw13.B = true := by kernel_rfl
def lwB (s : Nat) : Array Bool := ((List.range 71).map (fun i => s.testBit i)).toArray
def TruePost (w : World) (e : Ending) (w' : World) : Prop := e = .returned (.bool true) ∧ Below w.heap.size w w'
set_option maxHeartbeats 40000000 in
set_option maxRecDepth 100000 in
theorem lawWords (A : Option Addr) (c : Nat) (l : List Int) (w : World) (hr : Kd.C (Kd.int .u8) w A l.length l) (hc : l.length ≤ c) : Calls Tryz.prog 3 #[.slice A l.length c] w (TruePost w) := by
  have H0 := Aside0.mk (St.start w)
  have HR := Aside0.mk hr
  have HC := Aside0.mk hc
  clear hr hc
  by_cases hb : l.length ≤ 1048576
  case neg =>
    have EB : Aside0 (laws_big.f l = some true) := ⟨by unfold laws_big.f; rw [decide_eq_true (by omega)]⟩
    clear hb
    go_enter Tryz.func3, Tryz.ntmps3
    go_wp2_with (first
      | (go_at_call 4; refine (laws_big_sx H0.out HR.out HC.out EB.out).mono ?_; rintro e w1 ⟨rfl, h_⟩; have Ha1 := Aside0.mk h_; clear h_))
    go_ret
    exact ⟨rfl, Ha1.out.below⟩
  have EB : Aside0 (laws_big.f l = some false) := ⟨by unfold laws_big.f; rw [decide_eq_false (by omega)]⟩
  have HLB := Aside0.mk hb
  obtain ⟨x, ex, hx⟩ := drawWord_ok l hb
  obtain ⟨y, ey, hy⟩ := drawLattice_ok l hb
  obtain ⟨z, a, ez, hz⟩ := drawComplement_ok l hb
  obtain ⟨q, eq, hq⟩ := drawParse_ok l hb
  have EX := Aside0.mk ex
  have EY := Aside0.mk ey
  have EZ := Aside0.mk ez
  have EQ := Aside0.mk eq
  obtain ⟨s, hs⟩ : ∃ s, s = standardize x := ⟨_, rfl⟩
  have HS := Aside0.mk hs
  have HSL : Aside0 (s.length ≤ 9) := ⟨by rw [hs]; exact standardize_le x⟩
  have ESI : Aside0 (Ev (fun k => impl_StandardizeWord.f k x) s) := ⟨by rw [hs]; exact impl_StandardizeWord_ev x (by omega)⟩
  have ESS : Aside0 (Ev (fun k => spec_StandardizeWord.f k x) s) := ⟨by rw [hs]; exact spec_StandardizeWord_ev x (by omega)⟩
  have EQS := Aside0.mk (sameInts_ev s (by have := HSL.out; omega))
  obtain ⟨lb, hlb⟩ : ∃ b, b = isLattice y := ⟨_, rfl⟩
  have ELI : Aside0 (impl_IsLattice.f y = some lb) := ⟨by rw [hlb]; exact impl_IsLattice_eq y⟩
  have ELS : Aside0 (Ev (fun k => spec_IsLattice.f k y) lb) := ⟨by rw [hlb]; exact spec_IsLattice_ev y (by omega)⟩
  obtain ⟨u, ub, hu⟩ : ∃ u ub, complement z a = (u, ub) := ⟨_, _, rfl⟩
  have HUE := Aside0.mk hu
  have HZL := Aside0.mk hz
  have EUI : Aside0 (impl_ComplementWord.f z a = some (u, ub)) := ⟨by rw [← hu]; exact impl_ComplementWord_eq z a⟩
  have EUS : Aside0 (Ev (fun k => spec_ComplementWord.f k z a) (u, ub)) := ⟨by rw [← hu]; exact spec_ComplementWord_ev z a (by omega)⟩
  have EQU := Aside0.mk (sameInts_ev u (by have := complement_le z a; rw [hu] at this; dsimp only at this; omega))
  obtain ⟨p, pb, hp⟩ : ∃ p pb, parse q = (p, pb) := ⟨_, _, rfl⟩
  have EPI : Aside0 (Ev (fun k => impl_ParseWord.f k q) (p, pb)) := ⟨by rw [← hp]; exact impl_ParseWord_ev q (by omega)⟩
  have EPS : Aside0 (Ev (fun k => spec_ParseWord.f k q) (p, pb)) := ⟨by rw [← hp]; exact spec_ParseWord_ev q (by omega)⟩
  have EQP := Aside0.mk (sameInts_ev p (by have := parse_le q (by omega); rw [hp] at this; exact this))
  obtain ⟨wb, hwb⟩ : ∃ b, b = isWord x := ⟨_, rfl⟩
  have HWB := Aside0.mk hwb
  have EWI : Aside0 (impl_IsWord.f x = some wb) := ⟨by rw [hwb]; exact impl_IsWord_eq x⟩
  have EWS : Aside0 (Ev (fun k => spec_IsWord.f k x) wb) := ⟨by rw [hwb]; exact spec_IsWord_ev x (by omega)⟩
  obtain ⟨dc, hdc⟩ : ∃ d, d = descentCount x := ⟨_, rfl⟩
  have HDC := Aside0.mk hdc
  have EDI : Aside0 (Ev (fun k => impl_DescentCount.f k x) dc) := ⟨by rw [hdc]; exact impl_DescentCount_ev x (by omega)⟩
  have EDS : Aside0 (Ev (fun k => spec_DescentCount.f k x) dc) := ⟨by rw [hdc]; exact spec_DescentCount_ev x (by omega)⟩
  obtain ⟨iv, hiv⟩ : ∃ d, d = inversionCount x := ⟨_, rfl⟩
  have HIV := Aside0.mk hiv
  have EII : Aside0 (Ev (fun k => impl_InversionCount.f k x) iv) := ⟨by rw [hiv]; exact impl_InversionCount_ev x (by omega)⟩
  have EIS : Aside0 (Ev (fun k => spec_InversionCount.f k x) iv) := ⟨by rw [hiv]; exact spec_InversionCount_ev x (by omega)⟩
  obtain ⟨v, hv⟩ : ∃ v, v = reverseWord x := ⟨_, rfl⟩
  have HV := Aside0.mk hv
  have HVL : Aside0 (v.length ≤ 9) := ⟨by rw [hv]; exact reverseWord_le x⟩
  have EVI : Aside0 (Ev (fun k => impl_ReverseWord.f k x) v) := ⟨by rw [hv]; exact impl_ReverseWord_ev x (by omega)⟩
  have EVS : Aside0 (Ev (fun k => spec_ReverseWord.f k x) v) := ⟨by rw [hv]; exact spec_ReverseWord_ev x (by omega)⟩
  have EQV := Aside0.mk (sameInts_ev v (by have := HVL.out; omega))
  obtain ⟨tt, htt⟩ : ∃ t, t = wordText x := ⟨_, rfl⟩
  have ETI : Aside0 (Ev (fun k => impl_WordText.f k x) tt) := ⟨by rw [htt]; exact impl_WordText_ev x⟩
  have ETS : Aside0 (Ev (fun k => spec_WordText.f k x) tt) := ⟨by rw [htt]; exact spec_WordText_ev x (by omega)⟩
  obtain ⟨k0, hk0⟩ : ∃ k, k = (if isWord x then x else []) := ⟨_, rfl⟩
  have HK0 := Aside0.mk hk0
  have EKI : Aside0 (Ev (fun k => impl_ParseWord.f k tt) (k0, wb)) := ⟨by
    have e := impl_ParseWord_ev tt (by have := wordText_size x; rw [htt]; omega)
    rw [htt, parse_text] at e
    rw [htt, hk0, hwb]
    cases h : isWord x with
    | true => rw [h] at e; exact e
    | false => rw [h] at e; exact e⟩
  have EQK := Aside0.mk (sameInts_ev x (by omega))
  clear hb ex hx ey hy ez hz eq hq hs hlb hu hp hwb hdc hiv hv htt hk0
  go_enter Tryz.func3, Tryz.ntmps3
  go_upto_region 13 with (first
    | (go_at_call 14; refine (spec_ParseWord_sx Ha11.out  EPS.out).mono ?_; rintro e w12 ⟨A_p2, c_p2, ok_p2, rfl, h_⟩; have Ha12 := Aside0.mk h_; clear h_)
    | (go_at_call 13; refine (impl_ParseWord_sx Ha10.out  EPI.out).mono ?_; rintro e w11 ⟨A_p, c_p, ok_p, rfl, h_⟩; have Ha11 := Aside0.mk h_; clear h_)
    | (go_at_call 12; refine (spec_DrawParseWord_sx Ha9.out HR.out HC.out EQ.out).mono ?_; rintro e w10 ⟨rfl, h_⟩; have Ha10 := Aside0.mk h_; clear h_)
    | (go_at_call 11; refine (spec_ComplementWord_sx Ha8.out (Ha8.out.readR 1 rfl) EUS.out).mono ?_; rintro e w9 ⟨A_u2, c_u2, ok_u2, rfl, h_⟩; have Ha9 := Aside0.mk h_; clear h_)
    | (go_at_call 10; refine (impl_ComplementWord_sx Ha7.out (Ha7.out.readR 0 rfl) EUI.out).mono ?_; rintro e w8 ⟨A_u, c_u, ok_u, rfl, h_⟩; have Ha8 := Aside0.mk h_; clear h_)
    | (go_at_call 9; refine (spec_DrawComplementWord_sx Ha6.out HR.out HC.out EZ.out).mono ?_; rintro e w7 ⟨A_z, c_z, ok_z, rfl, h_⟩; have Ha7 := Aside0.mk h_; clear h_)
    | (go_at_call 8; refine (spec_DrawIsLattice_sx Ha5.out HR.out HC.out EY.out).mono ?_; rintro e w6 ⟨A_y, c_y, ok_y, rfl, h_⟩; have Ha6 := Aside0.mk h_; clear h_; clear x0 x1 z0 z1)
    | ((with_reducible refine gate_dst (N := 5) rfl ?_); refine zX (N := 5) (cs := #[.slice none 0 0, .slice none 0 0]) (t := 29) ?_; intro b5 hb5 w5 hx5 hl5; have H3b := (St.addB Ha4.out hx5 hb5 hl5); clear hx5 hb5 hl5; have z0 := blk_frozen (St.heapB H3b 0 rfl) 0; have z1 := blk_frozen (St.heapB H3b 0 rfl) 1; have x0 : w5.cell? ⟨b5, 0, none⟩ = some (.slice none 0 0) := St.cellB H3b 0 rfl 0 rfl; have x1 : w5.cell? ⟨b5, 1, none⟩ = some (.slice none 0 0) := St.cellB H3b 0 rfl 1 rfl; have Ha5 : Aside0 (St w _ (obB b5 #[.slice A_n n.length c_n, .slice A_m m.length c_m] 29 :: _)) := Aside0.mk (St.putB (St.putB H3b 0 rfl 0 (.slice A_n n.length c_n) rfl) 0 rfl 1 (.slice A_m m.length c_m) rfl); clear H3b)
    | (go_at_call 7; refine (drawTab_calls A c l _ (Kd.C_below HR.out Ha3.out.below) HC.out HLB.out).mono ?_; rintro e w4 ⟨v0, v1, n, m, rfl, hR, hS, hB, hn, hm, hrr⟩; obtain ⟨okn, okm, h_⟩ := St.addRS rfl Ha3.out hB hR hS; obtain ⟨A_n, c_n, e0⟩ := Kd.R_slice hR; subst e0; obtain ⟨A_m, c_m, e1⟩ := Kd.R_slice (Kd.S_R hS); subst e1; have Ha4 := Aside0.mk h_; have hbk := bulk_small hrr; have hmk := Nat.mul_le_mul_right 11 hm; obtain ⟨rdw, hrw⟩ : ∃ r, r = (if isTab n m = true then readAll m else []) := ⟨_, rfl⟩; have ERI : Aside0 (Ev (fun k => impl_ReadingWord.f k n m) rdw) := ⟨by rw [hrw]; exact impl_ReadingWord_ev n m (by omega) (by omega) (by omega)⟩; have ERS : Aside0 (Ev (fun k => spec_ReadingWord.f k n m) rdw) := ⟨by rw [hrw]; exact spec_ReadingWord_ev n m (by omega) (by omega) (by omega)⟩; have HRDL : Aside0 (rdw.length ≤ 1048576) := ⟨by rw [hrw]; split; (rw [readAll_bulk]; omega); simp⟩; clear h_ hR hS hB hn hm hrr hbk hmk hrw)
    | (go_at_call 6; refine (impl_StandardizeWord_sx Ha2.out (Ha2.out.readR 0 rfl) ESI.out).mono ?_; rintro e w3 ⟨A_s, c_s, ok_s, rfl, h_⟩; have Ha3 := Aside0.mk h_; clear h_)
    | (go_at_call 5; refine (spec_DrawStandardizeWord_sx Ha1.out HR.out HC.out EX.out).mono ?_; rintro e w2 ⟨A_x, c_x, ok_x, rfl, h_⟩; have Ha2 := Aside0.mk h_; clear h_)
    | (go_at_call 4; refine (laws_big_sx H0.out HR.out HC.out EB.out).mono ?_; rintro e w1 ⟨rfl, h_⟩; have Ha1 := Aside0.mk h_; clear h_))
  have HD := Aside0.mk (Ha12.out.quiet (below_drew (Below.refl _ _)))
  have z0 : w12.drew.cell? ⟨b5, 0, none⟩ = some (.slice A_n n.length c_n) := St.cellB HD.out 6 rfl 0 rfl
  have z1 : w12.drew.cell? ⟨b5, 1, none⟩ = some (.slice A_m m.length c_m) := St.cellB HD.out 6 rfl 1 rfl
  refine start_ (n := 71) (S := fun w' => w'.cell? ⟨b5, 0, none⟩ = some (.slice A_n n.length c_n) ∧ w'.cell? ⟨b5, 1, none⟩ = some (.slice A_m m.length c_m)) (ds := []) (lwB 0) (by kernel_rfl) (by kernel_rfl) (by kernel_rfl) ⟨z0, z1⟩ (fun hHeld => ?_)
  refine with_tabW lw13.tab lw13.bits (fun HT_ HW_ => ?_)
  generalize w12.drew = wd at HD z0 z1 hHeld ⊢
  clear z0 z1
  refine zP (i := 0) (N := some 62) (lwB 1) (zk HT_.out) ?_
  refine zP (i := 1) (N := some 63) (lwB 3) (zk HT_.out) ?_
  refine one_ (i := 2) (N := some 64) (lwB 7) rfl rfl (one_of HT_.out (by kernel_rfl)) (by simp) (fun K hK => ?_)
  refine zC Tryz.func16 #[.slice A_x x.length c_x] ?_
  refine (spec_StandardizeWord_sx HD.out (HD.out.readR 10 rfl) ESS.out).mono ?_
  rintro e w13 ⟨A_s2, c_s2, ok_s2, rfl, h_⟩
  refine ⟨_, rfl, ?_⟩
  have Ha13 := Aside0.mk h_
  clear h_
  refine hK.out _ _ ⟨St.cellB Ha13.out 7 rfl 0 rfl, St.cellB Ha13.out 7 rfl 1 rfl⟩ (fun hHeld => ?_)
  clear hK K
  refine zM (some 64) ?_
  refine one_ (i := 3) (N := some 65) (lwB 15) rfl rfl (one_of HT_.out (by kernel_rfl)) (by simp) (fun K hK => ?_)
  refine zC Tryz.func15 #[.slice A_s s.length c_s, .slice A_s2 s.length c_s2] ?_
  refine (laws_sameInts_sx Ha13.out (Ha13.out.readR 10 rfl) (Ha13.out.readR 0 rfl) EQS.out).mono ?_
  rintro e w14 ⟨rfl, h_⟩
  refine ⟨_, rfl, ?_⟩
  have Ha14 := Aside0.mk h_
  clear h_
  refine hK.out _ _ ⟨St.cellB Ha14.out 7 rfl 0 rfl, St.cellB Ha14.out 7 rfl 1 rfl⟩ (fun hHeld => ?_)
  clear hK K
  refine zM (some 65) ?_
  refine zP (i := 4) (N := some 66) (lwB 31) (zk HT_.out) ?_
  refine zP (i := 5) (N := some 67) (lwB 63) (zk HT_.out) ?_
  refine zT2 (i := 6) (N := some 68) (lwB 127) (take_ofW HT_.out HW_.out (by kernel_rfl)) hHeld ?_
  refine zT2 (i := 8) (N := some 70) (lwB 383) (take_ofW HT_.out HW_.out (by kernel_rfl)) hHeld ?_
  refine one_ (i := 7) (N := some 69) (lwB 511) rfl rfl (one_of HT_.out (by kernel_rfl)) (by simp) (fun K hK => ?_)
  refine zC Tryz.func17 #[.agg #[.slice A_n n.length c_n, .slice A_m m.length c_m]] ?_
  refine (impl_ReadingWord_sx Ha14.out (Ha14.out.readR 8 rfl) (Ha14.out.readS 9 rfl) ERI.out).mono ?_
  rintro e w15 ⟨A_ra, c_ra, ok_ra, rfl, h_⟩
  refine ⟨_, rfl, ?_⟩
  have Ha15 := Aside0.mk h_
  clear h_
  refine hK.out _ _ ⟨St.cellB Ha15.out 8 rfl 0 rfl, St.cellB Ha15.out 8 rfl 1 rfl⟩ (fun hHeld => ?_)
  clear hK K
  refine zM (some 69) ?_
  refine one_ (i := 9) (N := some 71) (lwB 1023) rfl rfl (one_of HT_.out (by kernel_rfl)) (by simp) (fun K hK => ?_)
  refine zC Tryz.func18 #[.agg #[.slice A_n n.length c_n, .slice A_m m.length c_m]] ?_
  refine (spec_ReadingWord_sx Ha15.out (Ha15.out.readR 9 rfl) (Ha15.out.readS 10 rfl) ERS.out).mono ?_
  rintro e w16 ⟨A_rb, c_rb, ok_rb, rfl, h_⟩
  refine ⟨_, rfl, ?_⟩
  have Ha16 := Aside0.mk h_
  clear h_
  refine hK.out _ _ ⟨St.cellB Ha16.out 9 rfl 0 rfl, St.cellB Ha16.out 9 rfl 1 rfl⟩ (fun hHeld => ?_)
  clear hK K
  refine zM (some 71) ?_
  refine one_ (i := 10) (N := some 72) (lwB 2047) rfl rfl (one_of HT_.out (by kernel_rfl)) (by simp) (fun K hK => ?_)
  refine zC Tryz.func15 #[.slice A_ra rdw.length c_ra, .slice A_rb rdw.length c_rb] ?_
  refine (laws_sameInts_sx Ha16.out (Ha16.out.readR 1 rfl) (Ha16.out.readR 0 rfl) (sameInts_ev rdw HRDL.out)).mono ?_
  rintro e w17 ⟨rfl, h_⟩
  refine ⟨_, rfl, ?_⟩
  have Ha17 := Aside0.mk h_
  clear h_
  refine hK.out _ _ ⟨St.cellB Ha17.out 9 rfl 0 rfl, St.cellB Ha17.out 9 rfl 1 rfl⟩ (fun hHeld => ?_)
  clear hK K
  refine zM (some 72) ?_
  refine zP (i := 11) (N := some 73) (lwB 4095) (zk HT_.out) ?_
  refine zP (i := 12) (N := some 74) (lwB 8191) (zk HT_.out) ?_
  refine zP (i := 13) (N := some 75) (lwB 16383) (zk HT_.out) ?_
  refine zP (i := 14) (N := some 76) (lwB 32767) (zk HT_.out) ?_
  refine zP (i := 16) (N := some 78) (lwB 98303) (zk HT_.out) ?_
  refine one_ (i := 15) (N := some 77) (lwB 131071) rfl rfl (one_of HT_.out (by kernel_rfl)) (by simp) (fun K hK => ?_)
  refine zC Tryz.func19 #[.slice A_y y.length c_y] ?_
  refine (impl_IsLattice_sx Ha17.out (Ha17.out.readR 8 rfl) ELI.out).mono ?_
  rintro e w18 ⟨rfl, h_⟩
  refine ⟨_, rfl, ?_⟩
  have Ha18 := Aside0.mk h_
  clear h_
  refine hK.out _ _ ⟨St.cellB Ha18.out 9 rfl 0 rfl, St.cellB Ha18.out 9 rfl 1 rfl⟩ (fun hHeld => ?_)
  clear hK K
  refine zM (some 77) ?_
  refine one_ (i := 17) (N := some 79) (lwB 262143) rfl rfl (one_of HT_.out (by kernel_rfl)) (by simp) (fun K hK => ?_)
  refine zC Tryz.func20 #[.slice A_y y.length c_y] ?_
  refine (spec_IsLattice_sx Ha18.out (Ha18.out.readR 8 rfl) ELS.out).mono ?_
  rintro e w19 ⟨rfl, h_⟩
  refine ⟨_, rfl, ?_⟩
  have Ha19 := Aside0.mk h_
  clear h_
  refine hK.out _ _ ⟨St.cellB Ha19.out 9 rfl 0 rfl, St.cellB Ha19.out 9 rfl 1 rfl⟩ (fun hHeld => ?_)
  clear hK K
  refine zM (some 79) ?_
  refine zP (i := 18) (N := some 80) (lwB 524287) (zk HT_.out) ?_
  refine zP (i := 19) (N := some 81) (lwB 1048575) (zk HT_.out) ?_
  refine zP (i := 20) (N := some 82) (lwB 2097151) (zk HT_.out) ?_
  refine zP (i := 21) (N := some 83) (lwB 4194303) (zk HT_.out) ?_
  refine zP (i := 22) (N := some 84) (lwB 8388607) (zk HT_.out) ?_
  refine zP (i := 23) (N := some 85) (lwB 16777215) (zk HT_.out) ?_
  refine zP (i := 24) (N := some 86) (lwB 33554431) (zk HT_.out) ?_
  refine zP (i := 25) (N := some 87) (lwB 67108863) (zk HT_.out) ?_
  refine zP (i := 26) (N := some 88) (lwB 134217727) (zk HT_.out) ?_
  refine zP (i := 27) (N := some 89) (lwB 268435455) (zk HT_.out) ?_
  refine one_ (i := 28) (N := some 90) (lwB 536870911) rfl rfl (one_of HT_.out (by kernel_rfl)) (by simp) (fun K hK => ?_)
  refine zC Tryz.func15 #[.slice A_u u.length c_u, .slice A_u2 u.length c_u2] ?_
  refine (laws_sameInts_sx Ha19.out (Ha19.out.readR 6 rfl) (Ha19.out.readR 5 rfl) EQU.out).mono ?_
  rintro e w20 ⟨rfl, h_⟩
  refine ⟨_, rfl, ?_⟩
  have Ha20 := Aside0.mk h_
  clear h_
  refine hK.out _ _ ⟨St.cellB Ha20.out 9 rfl 0 rfl, St.cellB Ha20.out 9 rfl 1 rfl⟩ (fun hHeld => ?_)
  clear hK K
  refine zM (some 90) ?_
  refine zP (i := 29) (N := some 91) (lwB 1073741823) (zk HT_.out) ?_
  refine zP (i := 30) (N := some 92) (lwB 2147483647) (zk HT_.out) ?_
  refine zP (i := 31) (N := some 93) (lwB 4294967295) (zk HT_.out) ?_
  refine zP (i := 32) (N := some 94) (lwB 8589934591) (zk HT_.out) ?_
  refine zP (i := 33) (N := some 95) (lwB 17179869183) (zk HT_.out) ?_
  refine zP (i := 34) (N := some 96) (lwB 34359738367) (zk HT_.out) ?_
  refine zP (i := 35) (N := some 97) (lwB 68719476735) (zk HT_.out) ?_
  refine zP (i := 36) (N := some 98) (lwB 137438953471) (zk HT_.out) ?_
  refine zP (i := 37) (N := some 99) (lwB 274877906943) (zk HT_.out) ?_
  refine zP (i := 38) (N := some 100) (lwB 549755813887) (zk HT_.out) ?_
  refine one_ (i := 39) (N := some 101) (lwB 1099511627775) rfl rfl (one_of HT_.out (by kernel_rfl)) (by simp) (fun K hK => ?_)
  refine zC Tryz.func15 #[.slice A_p p.length c_p, .slice A_p2 p.length c_p2] ?_
  refine (laws_sameInts_sx Ha20.out (Ha20.out.readR 4 rfl) (Ha20.out.readR 3 rfl) EQP.out).mono ?_
  rintro e w21 ⟨rfl, h_⟩
  refine ⟨_, rfl, ?_⟩
  have Ha21 := Aside0.mk h_
  clear h_
  refine hK.out _ _ ⟨St.cellB Ha21.out 9 rfl 0 rfl, St.cellB Ha21.out 9 rfl 1 rfl⟩ (fun hHeld => ?_)
  clear hK K
  refine zM (some 101) ?_
  refine zP (i := 40) (N := some 102) (lwB 2199023255551) (zk HT_.out) ?_
  refine zP (i := 41) (N := some 103) (lwB 4398046511103) (zk HT_.out) ?_
  refine zP (i := 42) (N := some 104) (lwB 8796093022207) (zk HT_.out) ?_
  refine zP (i := 43) (N := some 105) (lwB 17592186044415) (zk HT_.out) ?_
  refine zP (i := 45) (N := some 107) (lwB 52776558133247) (zk HT_.out) ?_
  refine one_ (i := 44) (N := some 106) (lwB 70368744177663) rfl rfl (one_of HT_.out (by kernel_rfl)) (by simp) (fun K hK => ?_)
  refine zC Tryz.func21 #[.slice A_x x.length c_x] ?_
  refine (impl_IsWord_sx Ha21.out (Ha21.out.readR 13 rfl) EWI.out).mono ?_
  rintro e w22 ⟨rfl, h_⟩
  refine ⟨_, rfl, ?_⟩
  have Ha22 := Aside0.mk h_
  clear h_
  refine hK.out _ _ ⟨St.cellB Ha22.out 9 rfl 0 rfl, St.cellB Ha22.out 9 rfl 1 rfl⟩ (fun hHeld => ?_)
  clear hK K
  refine zM (some 106) ?_
  refine one_ (i := 46) (N := some 108) (lwB 140737488355327) rfl rfl (one_of HT_.out (by kernel_rfl)) (by simp) (fun K hK => ?_)
  refine zC Tryz.func22 #[.slice A_x x.length c_x] ?_
  refine (spec_IsWord_sx Ha22.out (Ha22.out.readR 13 rfl) EWS.out).mono ?_
  rintro e w23 ⟨rfl, h_⟩
  refine ⟨_, rfl, ?_⟩
  have Ha23 := Aside0.mk h_
  clear h_
  refine hK.out _ _ ⟨St.cellB Ha23.out 9 rfl 0 rfl, St.cellB Ha23.out 9 rfl 1 rfl⟩ (fun hHeld => ?_)
  clear hK K
  refine zM (some 108) ?_
  refine zP (i := 47) (N := some 109) (lwB 281474976710655) (zk HT_.out) ?_
  refine zP (i := 48) (N := some 110) (lwB 562949953421311) (zk HT_.out) ?_
  refine zP (i := 49) (N := some 111) (lwB 1125899906842623) (zk HT_.out) ?_
  refine zP (i := 50) (N := some 112) (lwB 2251799813685247) (zk HT_.out) ?_
  refine zP (i := 52) (N := some 114) (lwB 6755399441055743) (zk HT_.out) ?_
  refine one_ (i := 51) (N := some 113) (lwB 9007199254740991) rfl rfl (one_of HT_.out (by kernel_rfl)) (by simp) (fun K hK => ?_)
  refine zC Tryz.func23 #[.slice A_x x.length c_x] ?_
  refine (impl_DescentCount_sx Ha23.out (Ha23.out.readR 13 rfl) EDI.out).mono ?_
  rintro e w24 ⟨rfl, h_⟩
  refine ⟨_, rfl, ?_⟩
  have Ha24 := Aside0.mk h_
  clear h_
  refine hK.out _ _ ⟨St.cellB Ha24.out 9 rfl 0 rfl, St.cellB Ha24.out 9 rfl 1 rfl⟩ (fun hHeld => ?_)
  clear hK K
  refine zM (some 113) ?_
  refine one_ (i := 53) (N := some 115) (lwB 18014398509481983) rfl rfl (one_of HT_.out (by kernel_rfl)) (by simp) (fun K hK => ?_)
  refine zC Tryz.func24 #[.slice A_x x.length c_x] ?_
  refine (spec_DescentCount_sx Ha24.out (Ha24.out.readR 13 rfl) EDS.out).mono ?_
  rintro e w25 ⟨rfl, h_⟩
  refine ⟨_, rfl, ?_⟩
  have Ha25 := Aside0.mk h_
  clear h_
  refine hK.out _ _ ⟨St.cellB Ha25.out 9 rfl 0 rfl, St.cellB Ha25.out 9 rfl 1 rfl⟩ (fun hHeld => ?_)
  clear hK K
  refine zM (some 115) ?_
  refine zP (i := 54) (N := some 116) (lwB 36028797018963967) (zk HT_.out) ?_
  refine zP (i := 55) (N := some 117) (lwB 72057594037927935) (zk HT_.out) ?_
  refine zP (i := 56) (N := some 118) (lwB 144115188075855871) (zk HT_.out) ?_
  refine zP (i := 57) (N := some 119) (lwB 288230376151711743) (zk HT_.out) ?_
  refine zP (i := 59) (N := some 121) (lwB 864691128455135231) (zk HT_.out) ?_
  refine one_ (i := 58) (N := some 120) (lwB 1152921504606846975) rfl rfl (one_of HT_.out (by kernel_rfl)) (by simp) (fun K hK => ?_)
  refine zC Tryz.func25 #[.slice A_x x.length c_x] ?_
  refine (impl_InversionCount_sx Ha25.out (Ha25.out.readR 13 rfl) EII.out).mono ?_
  rintro e w26 ⟨rfl, h_⟩
  refine ⟨_, rfl, ?_⟩
  have Ha26 := Aside0.mk h_
  clear h_
  refine hK.out _ _ ⟨St.cellB Ha26.out 9 rfl 0 rfl, St.cellB Ha26.out 9 rfl 1 rfl⟩ (fun hHeld => ?_)
  clear hK K
  refine zM (some 120) ?_
  refine one_ (i := 60) (N := some 122) (lwB 2305843009213693951) rfl rfl (one_of HT_.out (by kernel_rfl)) (by simp) (fun K hK => ?_)
  refine zC Tryz.func26 #[.slice A_x x.length c_x] ?_
  refine (spec_InversionCount_sx Ha26.out (Ha26.out.readR 13 rfl) EIS.out).mono ?_
  rintro e w27 ⟨rfl, h_⟩
  refine ⟨_, rfl, ?_⟩
  have Ha27 := Aside0.mk h_
  clear h_
  refine hK.out _ _ ⟨St.cellB Ha27.out 9 rfl 0 rfl, St.cellB Ha27.out 9 rfl 1 rfl⟩ (fun hHeld => ?_)
  clear hK K
  refine zM (some 122) ?_
  refine zP (i := 61) (N := some 123) (lwB 4611686018427387903) (zk HT_.out) ?_
  refine zP (i := 62) (N := some 124) (lwB 9223372036854775807) (zk HT_.out) ?_
  refine zP (i := 63) (N := some 125) (lwB 18446744073709551615) (zk HT_.out) ?_
  refine zP (i := 64) (N := some 126) (lwB 36893488147419103231) (zk HT_.out) ?_
  refine zP (i := 66) (N := some 128) (lwB 110680464442257309695) (zk HT_.out) ?_
  refine one_ (i := 65) (N := some 127) (lwB 147573952589676412927) rfl rfl (one_of HT_.out (by kernel_rfl)) (by simp) (fun K hK => ?_)
  refine zC Tryz.func27 #[.slice A_x x.length c_x] ?_
  refine (impl_ReverseWord_sx Ha27.out (Ha27.out.readR 13 rfl) EVI.out).mono ?_
  rintro e w28 ⟨A_va, c_va, ok_va, rfl, h_⟩
  refine ⟨_, rfl, ?_⟩
  have Ha28 := Aside0.mk h_
  clear h_
  refine hK.out _ _ ⟨St.cellB Ha28.out 10 rfl 0 rfl, St.cellB Ha28.out 10 rfl 1 rfl⟩ (fun hHeld => ?_)
  clear hK K
  refine zM (some 127) ?_
  refine one_ (i := 67) (N := some 129) (lwB 295147905179352825855) rfl rfl (one_of HT_.out (by kernel_rfl)) (by simp) (fun K hK => ?_)
  refine zC Tryz.func28 #[.slice A_x x.length c_x] ?_
  refine (spec_ReverseWord_sx Ha28.out (Ha28.out.readR 14 rfl) EVS.out).mono ?_
  rintro e w29 ⟨A_vb, c_vb, ok_vb, rfl, h_⟩
  refine ⟨_, rfl, ?_⟩
  have Ha29 := Aside0.mk h_
  clear h_
  refine hK.out _ _ ⟨St.cellB Ha29.out 11 rfl 0 rfl, St.cellB Ha29.out 11 rfl 1 rfl⟩ (fun hHeld => ?_)
  clear hK K
  refine zM (some 129) ?_
  refine one_ (i := 68) (N := some 130) (lwB 590295810358705651711) rfl rfl (one_of HT_.out (by kernel_rfl)) (by simp) (fun K hK => ?_)
  refine zC Tryz.func15 #[.slice A_va v.length c_va, .slice A_vb v.length c_vb] ?_
  refine (laws_sameInts_sx Ha29.out (Ha29.out.readR 1 rfl) (Ha29.out.readR 0 rfl) EQV.out).mono ?_
  rintro e w30 ⟨rfl, h_⟩
  refine ⟨_, rfl, ?_⟩
  have Ha30 := Aside0.mk h_
  clear h_
  refine hK.out _ _ ⟨St.cellB Ha30.out 11 rfl 0 rfl, St.cellB Ha30.out 11 rfl 1 rfl⟩ (fun hHeld => ?_)
  clear hK K
  refine zM (some 130) ?_
  refine zP (i := 69) (N := some 131) (lwB 1180591620717411303423) (zk HT_.out) ?_
  refine zP (i := 70) (N := some 132) (lwB 2361183241434822606847) (zk HT_.out) ?_
  refine done_ (done_of HT_.out (by kernel_rfl)) ?_
  go_upto_region 17 with (first
    | (go_at_call 13; refine (impl_ParseWord_sx Ha31.out  EKI.out).mono ?_; rintro e w32 ⟨A_k, c_k, ok_k, rfl, h_⟩; have Ha32 := Aside0.mk h_; clear h_)
    | (go_at_call 29; refine (impl_WordText_sx Ha30.out (Ha30.out.readR 15 rfl) ETI.out).mono ?_; rintro e w31 ⟨rfl, h_⟩; have Ha31 := Aside0.mk h_; clear h_))
  cases wb with
  | true =>
    have HW : Aside0 (isWord x = true) := ⟨HWB.out.symm⟩
    have e0 : x = k0 := by rw [HK0.out, HW.out]; rfl
    subst e0
    go_upto_region 19 with (first
      | (go_at_call 15; refine (laws_sameInts_sx Ha34.out (Ha34.out.readR 0 rfl) (Ha34.out.readR 16 rfl) EQK.out).mono ?_; rintro e w35 ⟨rfl, h_⟩; have Ha35 := Aside0.mk h_; clear h_)
      | (go_at_call 22; refine (spec_IsWord_sx Ha33.out (Ha33.out.readR 16 rfl) EWS.out).mono ?_; rintro e w34 ⟨rfl, h_⟩; have Ha34 := Aside0.mk h_; clear h_)
      | (go_at_call 30; refine (spec_WordText_sx Ha32.out (Ha32.out.readR 16 rfl) ETS.out).mono ?_; rintro e w33 ⟨rfl, h_⟩; have Ha33 := Aside0.mk h_; clear h_))
    cases ub with
    | true =>
      have ECC : Aside0 (impl_ComplementWord.f u a = some (z, true)) := ⟨by rw [impl_ComplementWord_eq]; exact congrArg some (complement_twice HUE.out)⟩
      have EQC := Aside0.mk (sameInts_ev z (by have := HZL.out; omega))
      have EIT : Aside0 (Ev (fun k => impl_InversionCount.f k s) iv) := ⟨by rw [HS.out, HIV.out, ← inversionCount_places HW.out]; exact impl_InversionCount_ev _ (by have := standardize_le x; omega)⟩
      have EDT : Aside0 (Ev (fun k => impl_DescentCount.f k s) dc) := ⟨by rw [HS.out, HDC.out, ← descentCount_places HW.out]; exact impl_DescentCount_ev _ (by have := standardize_le x; omega)⟩
      have EST : Aside0 (Ev (fun k => impl_StandardizeWord.f k s) s) := ⟨by have e := impl_StandardizeWord_ev s (by have := HSL.out; omega); rw [HS.out, standardize_twice HW.out] at e; rw [HS.out]; exact e⟩
      have EVT : Aside0 (Ev (fun k => impl_ReverseWord.f k v) x) := ⟨by have e := impl_ReverseWord_ev v (by have := HVL.out; omega); rw [HV.out, reverse_twice HW.out] at e; rw [HV.out]; exact e⟩
      go_wp2_with (first
        | (go_at_call 15; refine (laws_sameInts_sx Ha45.out (Ha45.out.readR 0 rfl) (Ha45.out.readR 20 rfl) EQK.out).mono ?_; rintro e w46 ⟨rfl, h_⟩; have Ha46 := Aside0.mk h_; clear h_)
        | (go_at_call 27; refine (impl_ReverseWord_sx Ha44.out (Ha44.out.readR 0 rfl) EVT.out).mono ?_; rintro e w45 ⟨A_vd, c_vd, ok_vd, rfl, h_⟩; have Ha45 := Aside0.mk h_; clear h_)
        | (go_at_call 27; refine (impl_ReverseWord_sx Ha43.out (Ha43.out.readR 18 rfl) EVI.out).mono ?_; rintro e w44 ⟨A_vc, c_vc, ok_vc, rfl, h_⟩; have Ha44 := Aside0.mk h_; clear h_)
        | (go_at_call 15; refine (laws_sameInts_sx Ha42.out (Ha42.out.readR 0 rfl) (Ha42.out.readR 17 rfl) EQS.out).mono ?_; rintro e w43 ⟨rfl, h_⟩; have Ha43 := Aside0.mk h_; clear h_)
        | (go_at_call 6; refine (impl_StandardizeWord_sx Ha41.out (Ha41.out.readR 16 rfl) EST.out).mono ?_; rintro e w42 ⟨A_st, c_st, ok_st, rfl, h_⟩; have Ha42 := Aside0.mk h_; clear h_)
        | (go_at_call 23; refine (impl_DescentCount_sx Ha40.out (Ha40.out.readR 17 rfl) EDI.out).mono ?_; rintro e w41 ⟨rfl, h_⟩; have Ha41 := Aside0.mk h_; clear h_)
        | (go_at_call 23; refine (impl_DescentCount_sx Ha39.out (Ha39.out.readR 16 rfl) EDT.out).mono ?_; rintro e w40 ⟨rfl, h_⟩; have Ha40 := Aside0.mk h_; clear h_)
        | (go_at_call 25; refine (impl_InversionCount_sx Ha38.out (Ha38.out.readR 17 rfl) EII.out).mono ?_; rintro e w39 ⟨rfl, h_⟩; have Ha39 := Aside0.mk h_; clear h_)
        | (go_at_call 25; refine (impl_InversionCount_sx Ha37.out (Ha37.out.readR 16 rfl) EIT.out).mono ?_; rintro e w38 ⟨rfl, h_⟩; have Ha38 := Aside0.mk h_; clear h_)
        | (go_at_call 15; refine (laws_sameInts_sx Ha36.out (Ha36.out.readR 0 rfl) (Ha36.out.readR 11 rfl) EQC.out).mono ?_; rintro e w37 ⟨rfl, h_⟩; have Ha37 := Aside0.mk h_; clear h_)
        | (go_at_call 10; refine (impl_ComplementWord_sx Ha35.out (Ha35.out.readR 9 rfl) ECC.out).mono ?_; rintro e w36 ⟨A_uu, c_uu, ok_uu, rfl, h_⟩; have Ha36 := Aside0.mk h_; clear h_))
      go_ret
      exact ⟨rfl, Ha46.out.below⟩
    | false =>
      have EIT : Aside0 (Ev (fun k => impl_InversionCount.f k s) iv) := ⟨by rw [HS.out, HIV.out, ← inversionCount_places HW.out]; exact impl_InversionCount_ev _ (by have := standardize_le x; omega)⟩
      have EDT : Aside0 (Ev (fun k => impl_DescentCount.f k s) dc) := ⟨by rw [HS.out, HDC.out, ← descentCount_places HW.out]; exact impl_DescentCount_ev _ (by have := standardize_le x; omega)⟩
      have EST : Aside0 (Ev (fun k => impl_StandardizeWord.f k s) s) := ⟨by have e := impl_StandardizeWord_ev s (by have := HSL.out; omega); rw [HS.out, standardize_twice HW.out] at e; rw [HS.out]; exact e⟩
      have EVT : Aside0 (Ev (fun k => impl_ReverseWord.f k v) x) := ⟨by have e := impl_ReverseWord_ev v (by have := HVL.out; omega); rw [HV.out, reverse_twice HW.out] at e; rw [HV.out]; exact e⟩
      go_wp2_with (first
        | (go_at_call 15; refine (laws_sameInts_sx Ha43.out (Ha43.out.readR 0 rfl) (Ha43.out.readR 19 rfl) EQK.out).mono ?_; rintro e w44 ⟨rfl, h_⟩; have Ha44 := Aside0.mk h_; clear h_)
        | (go_at_call 27; refine (impl_ReverseWord_sx Ha42.out (Ha42.out.readR 0 rfl) EVT.out).mono ?_; rintro e w43 ⟨A_vd, c_vd, ok_vd, rfl, h_⟩; have Ha43 := Aside0.mk h_; clear h_)
        | (go_at_call 27; refine (impl_ReverseWord_sx Ha41.out (Ha41.out.readR 17 rfl) EVI.out).mono ?_; rintro e w42 ⟨A_vc, c_vc, ok_vc, rfl, h_⟩; have Ha42 := Aside0.mk h_; clear h_)
        | (go_at_call 15; refine (laws_sameInts_sx Ha40.out (Ha40.out.readR 0 rfl) (Ha40.out.readR 16 rfl) EQS.out).mono ?_; rintro e w41 ⟨rfl, h_⟩; have Ha41 := Aside0.mk h_; clear h_)
        | (go_at_call 6; refine (impl_StandardizeWord_sx Ha39.out (Ha39.out.readR 15 rfl) EST.out).mono ?_; rintro e w40 ⟨A_st, c_st, ok_st, rfl, h_⟩; have Ha40 := Aside0.mk h_; clear h_)
        | (go_at_call 23; refine (impl_DescentCount_sx Ha38.out (Ha38.out.readR 16 rfl) EDI.out).mono ?_; rintro e w39 ⟨rfl, h_⟩; have Ha39 := Aside0.mk h_; clear h_)
        | (go_at_call 23; refine (impl_DescentCount_sx Ha37.out (Ha37.out.readR 15 rfl) EDT.out).mono ?_; rintro e w38 ⟨rfl, h_⟩; have Ha38 := Aside0.mk h_; clear h_)
        | (go_at_call 25; refine (impl_InversionCount_sx Ha36.out (Ha36.out.readR 16 rfl) EII.out).mono ?_; rintro e w37 ⟨rfl, h_⟩; have Ha37 := Aside0.mk h_; clear h_)
        | (go_at_call 25; refine (impl_InversionCount_sx Ha35.out (Ha35.out.readR 15 rfl) EIT.out).mono ?_; rintro e w36 ⟨rfl, h_⟩; have Ha36 := Aside0.mk h_; clear h_))
      go_ret
      exact ⟨rfl, Ha44.out.below⟩
  | false =>
    go_upto_region 19 with (first
      | (go_at_call 22; refine (spec_IsWord_sx Ha33.out (Ha33.out.readR 16 rfl) EWS.out).mono ?_; rintro e w34 ⟨rfl, h_⟩; have Ha34 := Aside0.mk h_; clear h_)
      | (go_at_call 30; refine (spec_WordText_sx Ha32.out (Ha32.out.readR 16 rfl) ETS.out).mono ?_; rintro e w33 ⟨rfl, h_⟩; have Ha33 := Aside0.mk h_; clear h_))
    cases ub with
    | true =>
      have ECC : Aside0 (impl_ComplementWord.f u a = some (z, true)) := ⟨by rw [impl_ComplementWord_eq]; exact congrArg some (complement_twice HUE.out)⟩
      have EQC := Aside0.mk (sameInts_ev z (by have := HZL.out; omega))
      go_wp2_with (first
        | (go_at_call 15; refine (laws_sameInts_sx Ha35.out (Ha35.out.readR 0 rfl) (Ha35.out.readR 11 rfl) EQC.out).mono ?_; rintro e w36 ⟨rfl, h_⟩; have Ha36 := Aside0.mk h_; clear h_)
        | (go_at_call 10; refine (impl_ComplementWord_sx Ha34.out (Ha34.out.readR 9 rfl) ECC.out).mono ?_; rintro e w35 ⟨A_uu, c_uu, ok_uu, rfl, h_⟩; have Ha35 := Aside0.mk h_; clear h_))
      go_ret
      exact ⟨rfl, Ha36.out.below⟩
    | false =>
      go_wp2
      go_ret
      exact ⟨rfl, Ha34.out.below⟩
end Go.Proofs.YtpandocpclecgaaGreatDoor.Q

set_option linter.unusedVariables false
set_option linter.unusedSimpArgs false
namespace Go.Proofs.YtpandocpclecgaaGreatDoor.Q
open Go.RowKit Go.Proofs.YtpandocpclecgaaGreatDoor.F Go.Proofs.YtpandocpclecgaaGreatDoorW.PrintWords Go.Proofs.YtpandocpclecgaaGreatDoorW.PrintLast Go.Proofs.YtpandocpclecgaaGreatDoorW.PrintMore
section
open Go.ChangeShapes Go.WideShapes
variable {H : Type} {enc : TypeId × Value → H} {P : Program} {W : World}
theorem open_ints_C {t e : TypeId} {k : IntKind} {fuel : Nat} {v : Value} {x : DataW H × List MemPlace} (ht : P.underlying t = some (.slice e)) (he : P.underlying e = some (.int k)) (hc : P.cellsOf e = 1)
    (h : DataW.trod enc P W 0 (fun _ => true) true fuel t [v] = some x) :
    ∃ (a : Option Addr) (l : List Int) (cap : Nat), v = .slice a l.length cap ∧ l.length ≤ cap ∧ l.length ≤ maxLen ∧ (Kd.int k).C W a l.length l ∧ ∀ n ∈ l, (Lit.int k n).wf = true := by
  rcases open_ints ht he hc h with ⟨hcs, _⟩ | ⟨a, len, cap, zs, hcs, _, hl, hm, hz, _, hcell, hw⟩
  · obtain rfl : v = .slice none 0 0 := by simpa using hcs
    exact ⟨none, [], 0, rfl, Nat.le_refl _, Nat.zero_le _, Kd.C_nil _ _, by simp⟩
  · obtain rfl : v = .slice (some a) len cap := by simpa using hcs
    simp only [if_true] at hz
    have hlen : (zs.take len).length = len := by rw [List.length_take, hz]; omega
    refine ⟨some a, zs.take len, cap, by rw [hlen], by rw [hlen]; exact hl, by rw [hlen]; omega, ⟨rfl, by rw [hlen]; unfold maxLen at hm; omega, fun _ => ⟨a, rfl, fun j p hj => ?_⟩⟩, fun n hn => hw n (List.mem_of_mem_take hn)⟩
    have hjl : j < len := by have := (List.getElem?_eq_some_iff.1 hj).1; omega
    refine ⟨[.int k p], rfl, rfl, fun i u hu => ?_⟩
    cases i with
    | zero =>
      obtain rfl : Value.int k p = u := by simpa using hu
      have := hcell j (by omega)
      rw [show j * (Kd.int k).sz + 0 = j from by show j * 1 + 0 = j; omega, this]
      rw [List.getElem?_take, if_pos hjl] at hj
      rw [List.getD_eq_getElem?_getD, hj]; rfl
    | succ i => simp at hu
end
end Go.Proofs.YtpandocpclecgaaGreatDoor.Q
