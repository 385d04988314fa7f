/- Policies: as values, '==' of two, their fields. -/
import Derived.Test.YtfcekicjlgdmaaaNetEq
import Derived.Test.YtfcekicjlgdmaaaCells
set_option linter.unusedVariables false
set_option linter.unusedSimpArgs false
set_option maxRecDepth 100000
namespace Go.Proofs.Ytfcekicjlgdmaaa
open Go.RowKit

/-- A policy: Sub, Net, Rate, Burst, SlowRate, SlowBurst, Quota, Lease, Quantum. -/
abbrev Pol := Int × Nt × Int × Int × Int × Int × Int × Int × Int
def InU64 (n : Int) : Prop := 0 ≤ n ∧ n ≤ 18446744073709551615
def InI64 (n : Int) : Prop := -9223372036854775808 ≤ n ∧ n ≤ 9223372036854775807
def NtOkT (x : Nt) : Prop := NtOk x.1 x.2.1 x.2.2.1 x.2.2.2.1 x.2.2.2.2
def PolOk (x : Pol) : Prop := InI64 x.1 ∧ NtOkT x.2.1 ∧ InU64 x.2.2.1 ∧ InU64 x.2.2.2.1 ∧ InU64 x.2.2.2.2.1 ∧ InU64 x.2.2.2.2.2.1 ∧ InU64 x.2.2.2.2.2.2.1 ∧ InU64 x.2.2.2.2.2.2.2.1 ∧ InU64 x.2.2.2.2.2.2.2.2
def polLeaves : List Leaf := [.i .i64, .i .u8, .i .u8, .i .u8, .i .u8, .i .i64, .i .u64, .i .u64, .i .u64, .i .u64, .i .u64, .i .u64, .i .u64]
def polRow (x : Pol) : List Value := [.int .i64 x.1, .int .u8 x.2.1.1, .int .u8 x.2.1.2.1, .int .u8 x.2.1.2.2.1, .int .u8 x.2.1.2.2.2.1, .int .i64 x.2.1.2.2.2.2, .int .u64 x.2.2.1, .int .u64 x.2.2.2.1, .int .u64 x.2.2.2.2.1, .int .u64 x.2.2.2.2.2.1, .int .u64 x.2.2.2.2.2.2.1, .int .u64 x.2.2.2.2.2.2.2.1, .int .u64 x.2.2.2.2.2.2.2.2]
instance nt_dec : DecidableEq Nt := inferInstance
instance six_dec : DecidableEq (Int × Int × Int × Int) := inferInstance
instance seven_dec : DecidableEq (Int × Int × Int × Int × Int × Int × Int) := inferInstance
instance pol_dec : DecidableEq Pol := inferInstance
def eqP (x y : Pol) : Bool := decide (x = y)
theorem eqP_iff {x y : Pol} : eqP x y = true ↔ x = y := by unfold eqP; simp
theorem eqP_false {x y : Pol} : eqP x y = false ↔ x ≠ y := by unfold eqP; simp
def zeroP : Pol := (0, (0, 0, 0, 0, 0), 0, 0, 0, 0, 0, 0, 0)
theorem zeroP_ok : PolOk zeroP := by unfold PolOk NtOkT NtOk AdOk InI64 InU64 zeroP; simp
theorem u64_wf {a : Int} (h : InU64 a) : (Lit.int .u64 a).wf = true := WalkArith.wf_u64 h
theorem pol_fits {x : Pol} (h : PolOk x) : Fits polLeaves (polRow x) :=
  ⟨⟨_, rfl, i64_wf h.1⟩, ⟨_, rfl, u8_wf h.2.1.1.1⟩, ⟨_, rfl, u8_wf h.2.1.1.2.1⟩, ⟨_, rfl, u8_wf h.2.1.1.2.2.1⟩, ⟨_, rfl, u8_wf h.2.1.1.2.2.2⟩, ⟨_, rfl, i64_wf h.2.1.2⟩, ⟨_, rfl, u64_wf h.2.2.1⟩, ⟨_, rfl, u64_wf h.2.2.2.1⟩, ⟨_, rfl, u64_wf h.2.2.2.2.1⟩, ⟨_, rfl, u64_wf h.2.2.2.2.2.1⟩, ⟨_, rfl, u64_wf h.2.2.2.2.2.2.1⟩, ⟨_, rfl, u64_wf h.2.2.2.2.2.2.2.1⟩, ⟨_, rfl, u64_wf h.2.2.2.2.2.2.2.2⟩, trivial⟩
theorem polRow_inj {x y : Pol} (h : polRow x = polRow y) : x = y := by
  simp only [polRow, List.cons.injEq, Value.int.injEq, true_and, and_true] at h
  exact Prod.ext h.1 (Prod.ext (Prod.ext h.2.1 (Prod.ext h.2.2.1 (Prod.ext h.2.2.2.1 (Prod.ext h.2.2.2.2.1 h.2.2.2.2.2.1)))) (Prod.ext h.2.2.2.2.2.2.1 (Prod.ext h.2.2.2.2.2.2.2.1 (Prod.ext h.2.2.2.2.2.2.2.2.1 (Prod.ext h.2.2.2.2.2.2.2.2.2.1 (Prod.ext h.2.2.2.2.2.2.2.2.2.2.1 (Prod.ext h.2.2.2.2.2.2.2.2.2.2.2.1 h.2.2.2.2.2.2.2.2.2.2.2.2)))))))
theorem pol_leaves : leaves Try.prog 8 28 = some polLeaves := by kernel_rfl
theorem pol_keyT : Try.prog.keyTypeAt 8 28 = true := by kernel_rfl
theorem pol_cells : Try.prog.cellsOf 28 = polLeaves.length := by kernel_rfl
theorem pol_wide : (match Try.prog.underlying 28 with | some (.struct _) | some (.array _ _) => true | _ => false) = true := by kernel_rfl
theorem equal_pol {x y : Pol} (h : PolOk x) (h' : PolOk y) (w : World) : (Op.equalIn 10000 28 (.agg #[.int .i64 x.1, .int .u8 x.2.1.1, .int .u8 x.2.1.2.1, .int .u8 x.2.1.2.2.1, .int .u8 x.2.1.2.2.2.1, .int .i64 x.2.1.2.2.2.2, .int .u64 x.2.2.1, .int .u64 x.2.2.2.1, .int .u64 x.2.2.2.2.1, .int .u64 x.2.2.2.2.2.1, .int .u64 x.2.2.2.2.2.2.1, .int .u64 x.2.2.2.2.2.2.2.1, .int .u64 x.2.2.2.2.2.2.2.2]) (.agg #[.int .i64 y.1, .int .u8 y.2.1.1, .int .u8 y.2.1.2.1, .int .u8 y.2.1.2.2.1, .int .u8 y.2.1.2.2.2.1, .int .i64 y.2.1.2.2.2.2, .int .u64 y.2.2.1, .int .u64 y.2.2.2.1, .int .u64 y.2.2.2.2.1, .int .u64 y.2.2.2.2.2.1, .int .u64 y.2.2.2.2.2.2.1, .int .u64 y.2.2.2.2.2.2.2.1, .int .u64 y.2.2.2.2.2.2.2.2])).run Try.prog w = .ok (eqP x y) w := by
  have hE := flat_equal pol_leaves pol_keyT (by omega) pol_cells pol_wide (pol_fits h) (pol_fits h') w
  by_cases e : x = y
  · rw [eqP_iff.2 e]
    exact hE.1 (by rw [e])
  · rw [eqP_false.2 e]
    exact hE.2 fun h => e (polRow_inj h)
theorem eql_pol {a0 a1 a2 a3 a4 a5 a6 a7 a8 a9 a10 a11 a12 b0 b1 b2 b3 b4 b5 b6 b7 b8 b9 b10 b11 b12 : Int} (h : PolOk (a0, (a1, a2, a3, a4, a5), a6, a7, a8, a9, a10, a11, a12)) (h' : PolOk (b0, (b1, b2, b3, b4, b5), b6, b7, b8, b9, b10, b11, b12)) (w : World) : (binOp .eql 28 (.agg #[.int .i64 a0, .int .u8 a1, .int .u8 a2, .int .u8 a3, .int .u8 a4, .int .i64 a5, .int .u64 a6, .int .u64 a7, .int .u64 a8, .int .u64 a9, .int .u64 a10, .int .u64 a11, .int .u64 a12]) (.agg #[.int .i64 b0, .int .u8 b1, .int .u8 b2, .int .u8 b3, .int .u8 b4, .int .i64 b5, .int .u64 b6, .int .u64 b7, .int .u64 b8, .int .u64 b9, .int .u64 b10, .int .u64 b11, .int .u64 b12])).run Try.prog w = .ok (.bool (eqP (a0, (a1, a2, a3, a4, a5), a6, a7, a8, a9, a10, a11, a12) (b0, (b1, b2, b3, b4, b5), b6, b7, b8, b9, b10, b11, b12))) w := by
  rw [run_eql_struct, equal_pol h h']; rfl
theorem neq_pol {a0 a1 a2 a3 a4 a5 a6 a7 a8 a9 a10 a11 a12 b0 b1 b2 b3 b4 b5 b6 b7 b8 b9 b10 b11 b12 : Int} (h : PolOk (a0, (a1, a2, a3, a4, a5), a6, a7, a8, a9, a10, a11, a12)) (h' : PolOk (b0, (b1, b2, b3, b4, b5), b6, b7, b8, b9, b10, b11, b12)) (w : World) : (binOp .neq 28 (.agg #[.int .i64 a0, .int .u8 a1, .int .u8 a2, .int .u8 a3, .int .u8 a4, .int .i64 a5, .int .u64 a6, .int .u64 a7, .int .u64 a8, .int .u64 a9, .int .u64 a10, .int .u64 a11, .int .u64 a12]) (.agg #[.int .i64 b0, .int .u8 b1, .int .u8 b2, .int .u8 b3, .int .u8 b4, .int .i64 b5, .int .u64 b6, .int .u64 b7, .int .u64 b8, .int .u64 b9, .int .u64 b10, .int .u64 b11, .int .u64 b12])).run Try.prog w = .ok (.bool (!eqP (a0, (a1, a2, a3, a4, a5), a6, a7, a8, a9, a10, a11, a12) (b0, (b1, b2, b3, b4, b5), b6, b7, b8, b9, b10, b11, b12))) w := by
  rw [run_neq_struct, equal_pol h h']; rfl
theorem pol_net {v0 v1 v2 v3 v4 v5 v6 v7 v8 v9 v10 v11 v12 : Value} (w : World) : (Instr.field 28 (.agg #[v0, v1, v2, v3, v4, v5, v6, v7, v8, v9, v10, v11, v12]) 1).run Try.prog w = .ok (.agg #[v1, v2, v3, v4, v5]) w := by kernel_rfl
end Go.Proofs.Ytfcekicjlgdmaaa
