/- Addresses, networks and routes: as keys, and '==' of them. -/
import Derived.Test.YtebeknnjjoobnaaFlatEq
set_option linter.unusedVariables false
set_option linter.unusedSimpArgs false
set_option maxRecDepth 100000
namespace Go.Proofs.Ytebeknnjjoobnaa
open Go.RowKit

abbrev Ad := Int × Int × Int × Int
abbrev Nt := Int × Int × Int × Int × Int
def AdOk (a b c d : Int) : Prop := (0 ≤ a ∧ a ≤ 255) ∧ (0 ≤ b ∧ b ≤ 255) ∧ (0 ≤ c ∧ c ≤ 255) ∧ (0 ≤ d ∧ d ≤ 255)
def NtOk (a b c d n : Int) : Prop := AdOk a b c d ∧ -9223372036854775808 ≤ n ∧ n ≤ 9223372036854775807
def eqA (x y : Ad) : Bool := decide (x = y)
def eqN (x y : Nt) : Bool := decide (x = y)
theorem eqA_iff {x y : Ad} : eqA x y = true ↔ x = y := by unfold eqA; simp
theorem eqN_iff {x y : Nt} : eqN x y = true ↔ x = y := by unfold eqN; simp
theorem eqN_false {x y : Nt} : eqN x y = false ↔ x ≠ y := by unfold eqN; simp
def adLeaves : List Leaf := [.i .u8, .i .u8, .i .u8, .i .u8]
def ntLeaves : List Leaf := [.i .u8, .i .u8, .i .u8, .i .u8, .i .i64]
theorem u8_wf {a : Int} (h : 0 ≤ a ∧ a ≤ 255) : (Lit.int .u8 a).wf = true := by unfold Lit.wf; simp only [IntKind.min, IntKind.max, IntKind.signed, IntKind.bits, Bool.and_eq_true, decide_eq_true_eq]; exact ⟨by simpa using h.1, by simpa using h.2⟩
theorem i64_wf {a : Int} (h : -9223372036854775808 ≤ a ∧ a ≤ 9223372036854775807) : (Lit.int .i64 a).wf = true := WalkArith.wf_i64 h
theorem ad_fits {a b c d : Int} (h : AdOk a b c d) : Fits adLeaves [.int .u8 a, .int .u8 b, .int .u8 c, .int .u8 d] := ⟨⟨_, rfl, u8_wf h.1⟩, ⟨_, rfl, u8_wf h.2.1⟩, ⟨_, rfl, u8_wf h.2.2.1⟩, ⟨_, rfl, u8_wf h.2.2.2⟩, trivial⟩
theorem nt_fits {a b c d n : Int} (h : NtOk a b c d n) : Fits ntLeaves [.int .u8 a, .int .u8 b, .int .u8 c, .int .u8 d, .int .i64 n] := ⟨⟨_, rfl, u8_wf h.1.1⟩, ⟨_, rfl, u8_wf h.1.2.1⟩, ⟨_, rfl, u8_wf h.1.2.2.1⟩, ⟨_, rfl, u8_wf h.1.2.2.2⟩, ⟨_, rfl, i64_wf h.2⟩, trivial⟩
theorem net_addr (x0 x1 x2 x3 x4 : Value) (w : World) : (Instr.field 29 (.agg #[x0, x1, x2, x3, x4]) 0).run Try.prog w = .ok (.agg #[x0, x1, x2, x3]) w := by kernel_rfl
theorem net_bits (x0 x1 x2 x3 x4 : Value) (w : World) : (Instr.field 29 (.agg #[x0, x1, x2, x3, x4]) 1).run Try.prog w = .ok x4 w := by kernel_rfl
theorem ad_leaves : leaves Try.prog 6 27 = some adLeaves := by kernel_rfl
theorem nt_leaves : leaves Try.prog 6 29 = some ntLeaves := by kernel_rfl
theorem ad_keyT : Try.prog.keyTypeAt 6 27 = true := by kernel_rfl
theorem nt_keyT : Try.prog.keyTypeAt 6 29 = true := by kernel_rfl
theorem ad_cells : Try.prog.cellsOf 27 = adLeaves.length := by kernel_rfl
theorem nt_cells : Try.prog.cellsOf 29 = ntLeaves.length := by kernel_rfl
theorem ad_wide : (match Try.prog.underlying 27 with | some (.struct _) | some (.array _ _) => true | _ => false) = true := by kernel_rfl
theorem nt_wide : (match Try.prog.underlying 29 with | some (.struct _) | some (.array _ _) => true | _ => false) = true := by kernel_rfl
theorem nt_wide2 : (match Try.prog.underlying 29 with | some (.array _ _) | some (.struct _) => true | _ => false) = true := by kernel_rfl
theorem nt_key : Try.prog.keyType 29 = true := by kernel_rfl
theorem nt_row : (29 : TypeId) < Try.prog.types.size := of_decide_eq_true (by kernel_rfl)
theorem many_types : 6 ≤ Try.prog.types.size + 1 := of_decide_eq_true (by kernel_rfl)
theorem laid_out : laidOutB Try.prog = true := by kernel_rfl
theorem nt_keyed : Maps.Keyed Try.prog 29 := Maps.Keyed.of_law (deep_law_laid laid_out (m := 6) (by omega) nt_row nt_keyT nt_wide2)

theorem equal_ad {a b c d a' b' c' d' : Int} (h : AdOk a b c d) (h' : AdOk a' b' c' d') (w : World) :
    (Op.equalIn 10000 27 (.agg #[.int .u8 a, .int .u8 b, .int .u8 c, .int .u8 d]) (.agg #[.int .u8 a', .int .u8 b', .int .u8 c', .int .u8 d'])).run Try.prog w = .ok (eqA (a, b, c, d) (a', b', c', d')) w := by
  have hE := flat_equal ad_leaves ad_keyT (by omega) ad_cells ad_wide (ad_fits h) (ad_fits h') w
  by_cases e : (a, b, c, d) = (a', b', c', d')
  · rw [eqA_iff.2 e]
    simp only [Prod.mk.injEq] at e
    obtain ⟨rfl, rfl, rfl, rfl⟩ := e
    exact hE.1 rfl
  · rw [show eqA (a, b, c, d) (a', b', c', d') = false from decide_eq_false e]
    exact hE.2 fun h => e (by simpa using h)
theorem equal_nt {a b c d n a' b' c' d' n' : Int} (h : NtOk a b c d n) (h' : NtOk a' b' c' d' n') (w : World) :
    (Op.equalIn 10000 29 (.agg #[.int .u8 a, .int .u8 b, .int .u8 c, .int .u8 d, .int .i64 n]) (.agg #[.int .u8 a', .int .u8 b', .int .u8 c', .int .u8 d', .int .i64 n'])).run Try.prog w = .ok (eqN (a, b, c, d, n) (a', b', c', d', n')) w := by
  have hE := flat_equal nt_leaves nt_keyT (by omega) nt_cells nt_wide (nt_fits h) (nt_fits h') w
  by_cases e : (a, b, c, d, n) = (a', b', c', d', n')
  · rw [eqN_iff.2 e]
    simp only [Prod.mk.injEq] at e
    obtain ⟨rfl, rfl, rfl, rfl, rfl⟩ := e
    exact hE.1 rfl
  · rw [eqN_false.2 e]
    exact hE.2 fun h => e (by simpa using h)
theorem eql_ad {a b c d a' b' c' d' : Int} (h : AdOk a b c d) (h' : AdOk a' b' c' d') (w : World) :
    (binOp .eql 27 (.agg #[.int .u8 a, .int .u8 b, .int .u8 c, .int .u8 d]) (.agg #[.int .u8 a', .int .u8 b', .int .u8 c', .int .u8 d'])).run Try.prog w = .ok (.bool (eqA (a, b, c, d) (a', b', c', d'))) w := by
  rw [run_eql_struct, equal_ad h h']; rfl
theorem eql_nt {a b c d n a' b' c' d' n' : Int} (h : NtOk a b c d n) (h' : NtOk a' b' c' d' n') (w : World) :
    (binOp .eql 29 (.agg #[.int .u8 a, .int .u8 b, .int .u8 c, .int .u8 d, .int .i64 n]) (.agg #[.int .u8 a', .int .u8 b', .int .u8 c', .int .u8 d', .int .i64 n'])).run Try.prog w = .ok (.bool (eqN (a, b, c, d, n) (a', b', c', d', n'))) w := by
  rw [run_eql_struct, equal_nt h h']; rfl
theorem neq_nt {a b c d n a' b' c' d' n' : Int} (h : NtOk a b c d n) (h' : NtOk a' b' c' d' n') (w : World) :
    (binOp .neq 29 (.agg #[.int .u8 a, .int .u8 b, .int .u8 c, .int .u8 d, .int .i64 n]) (.agg #[.int .u8 a', .int .u8 b', .int .u8 c', .int .u8 d', .int .i64 n'])).run Try.prog w = .ok (.bool (!eqN (a, b, c, d, n) (a', b', c', d', n'))) w := by
  rw [run_neq_struct, equal_nt h h']; rfl
end Go.Proofs.Ytebeknnjjoobnaa
