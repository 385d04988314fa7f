/- Addresses, networks and routes: as keys, and '==' of them. -/
import Derived.Test.YtebeknnjjoobnaaDoorFlatEq
set_option linter.unusedVariables false
set_option linter.unusedSimpArgs false
set_option maxRecDepth 100000
namespace Go.Proofs.YtebeknnjjoobnaaDoor
open Go.RowKit

abbrev Ad := Int × Int × Int × Int
abbrev Nt := Int × Int × Int × Int × Int
def AdOk (a b c d : Int) : Prop := (0 ≤ a ∧ a ≤ 255) ∧ (0 ≤ b ∧ b ≤ 255) ∧ (0 ≤ c ∧ c ≤ 255) ∧ (0 ≤ d ∧ d ≤ 255)
def NtOk (a b c d n : Int) : Prop := AdOk a b c d ∧ -9223372036854775808 ≤ n ∧ n ≤ 9223372036854775807
def eqA (x y : Ad) : Bool := decide (x = y)
def eqN (x y : Nt) : Bool := decide (x = y)
theorem eqA_iff {x y : Ad} : eqA x y = true ↔ x = y := by unfold eqA; simp
theorem eqN_iff {x y : Nt} : eqN x y = true ↔ x = y := by unfold eqN; simp
theorem eqN_false {x y : Nt} : eqN x y = false ↔ x ≠ y := by unfold eqN; simp
def adLeaves : List Leaf := [.i .u8, .i .u8, .i .u8, .i .u8]
def ntLeaves : List Leaf := [.i .u8, .i .u8, .i .u8, .i .u8, .i .i64]
theorem u8_wf {a : Int} (h : 0 ≤ a ∧ a ≤ 255) : (Lit.int .u8 a).wf = true := by unfold Lit.wf; simp only [IntKind.min, IntKind.max, IntKind.signed, IntKind.bits, Bool.and_eq_true, decide_eq_true_eq]; exact ⟨by simpa using h.1, by simpa using h.2⟩
theorem i64_wf {a : Int} (h : -9223372036854775808 ≤ a ∧ a ≤ 9223372036854775807) : (Lit.int .i64 a).wf = true := WalkArith.wf_i64 h
theorem ad_fits {a b c d : Int} (h : AdOk a b c d) : Fits adLeaves [.int .u8 a, .int .u8 b, .int .u8 c, .int .u8 d] := ⟨⟨_, rfl, u8_wf h.1⟩, ⟨_, rfl, u8_wf h.2.1⟩, ⟨_, rfl, u8_wf h.2.2.1⟩, ⟨_, rfl, u8_wf h.2.2.2⟩, trivial⟩
theorem nt_fits {a b c d n : Int} (h : NtOk a b c d n) : Fits ntLeaves [.int .u8 a, .int .u8 b, .int .u8 c, .int .u8 d, .int .i64 n] := ⟨⟨_, rfl, u8_wf h.1.1⟩, ⟨_, rfl, u8_wf h.1.2.1⟩, ⟨_, rfl, u8_wf h.1.2.2.1⟩, ⟨_, rfl, u8_wf h.1.2.2.2⟩, ⟨_, rfl, i64_wf h.2⟩, trivial⟩
end Go.Proofs.YtebeknnjjoobnaaDoor
