/- Rows of a bill: as values, as keys, and '==' of them. -/
import Derived.Test.YtebeknnjjoobnaaDoorFlatAt
import Derived.Test.YtebeknnjjoobnaaDoorMapL
import Derived.Test.YtebeknnjjoobnaaDoorKept
import Derived.Test.YtebeknnjjoobnaaDoorSat
set_option linter.unusedVariables false
set_option linter.unusedSimpArgs false
set_option maxRecDepth 100000
namespace Go.Proofs.YtebeknnjjoobnaaDoor
open Go.RowKit

abbrev Ky := Int × Int
abbrev Bv := Int × Int × Int × Int
abbrev Rw := Ky × Bv
def zeroRw : Rw := ((0, 0), (0, 0, 0, 0))
def I64 (n : Int) : Prop := -9223372036854775808 ≤ n ∧ n ≤ 9223372036854775807
def U64 (n : Int) : Prop := 0 ≤ n ∧ n ≤ 18446744073709551615
def KyOk (a b : Int) : Prop := I64 a ∧ U64 b
def KyOkT (k : Ky) : Prop := KyOk k.1 k.2
def BvOk (x : Bv) : Prop := U64 x.1 ∧ U64 x.2.1 ∧ U64 x.2.2.1 ∧ U64 x.2.2.2
def RwOk (x : Rw) : Prop := KyOkT x.1 ∧ BvOk x.2
def kyV (k : Ky) : Value := .agg #[.int .i64 k.1, .int .u64 k.2]
def rwV (x : Rw) : Value := .agg #[.int .i64 x.1.1, .int .u64 x.1.2, .int .u64 x.2.1, .int .u64 x.2.2.1, .int .u64 x.2.2.2.1, .int .u64 x.2.2.2.2]
def rwRow (x : Rw) : List Value := [.int .i64 x.1.1, .int .u64 x.1.2, .int .u64 x.2.1, .int .u64 x.2.2.1, .int .u64 x.2.2.2.1, .int .u64 x.2.2.2.2]
def kyLeaves : List Leaf := [.i .i64, .i .u64]
def rwLeaves : List Leaf := [.i .i64, .i .u64, .i .u64, .i .u64, .i .u64, .i .u64]
instance rw_dec : DecidableEq Rw := inferInstance
def eqW (x y : Rw) : Bool := decide (x = y)
theorem eqW_iff {x y : Rw} : eqW x y = true ↔ x = y := by unfold eqW; simp
theorem u64_wf {a : Int} (h : 0 ≤ a ∧ a ≤ 18446744073709551615) : (Lit.int .u64 a).wf = true := by unfold Lit.wf; simp only [IntKind.min, IntKind.max, IntKind.signed, IntKind.bits, Bool.and_eq_true, decide_eq_true_eq]; exact ⟨by simpa using h.1, by simpa using h.2⟩
theorem ky_fits {k : Ky} (h : KyOkT k) : Fits kyLeaves [.int .i64 k.1, .int .u64 k.2] := ⟨⟨_, rfl, i64_wf h.1⟩, ⟨_, rfl, u64_wf h.2⟩, trivial⟩
theorem rw_fits {x : Rw} (h : RwOk x) : Fits rwLeaves (rwRow x) := ⟨⟨_, rfl, i64_wf h.1.1⟩, ⟨_, rfl, u64_wf h.1.2⟩, ⟨_, rfl, u64_wf h.2.1⟩, ⟨_, rfl, u64_wf h.2.2.1⟩, ⟨_, rfl, u64_wf h.2.2.2.1⟩, ⟨_, rfl, u64_wf h.2.2.2.2⟩, trivial⟩
theorem rwRow_inj {x y : Rw} (h : rwRow x = rwRow y) : x = y := by
  simp only [rwRow, List.cons.injEq, Value.int.injEq, true_and, and_true] at h
  exact Prod.ext (Prod.ext h.1 h.2.1) (Prod.ext h.2.2.1 (Prod.ext h.2.2.2.1 (Prod.ext h.2.2.2.2.1 h.2.2.2.2.2)))
theorem ky_leaves : leaves Tryd.prog 6 64 = some kyLeaves := by kernel_rfl
theorem ky_keyT : Tryd.prog.keyTypeAt 6 64 = true := by kernel_rfl
theorem ky_cells : Tryd.prog.cellsOf 64 = kyLeaves.length := by kernel_rfl
theorem ky_wide : (match Tryd.prog.underlying 64 with | some (.struct _) | some (.array _ _) => true | _ => false) = true := by kernel_rfl
theorem ky_wide2 : (match Tryd.prog.underlying 64 with | some (.array _ _) | some (.struct _) => true | _ => false) = true := by kernel_rfl
theorem ky_key : Tryd.prog.keyType 64 = true := by kernel_rfl
theorem ky_row : (64 : TypeId) < Tryd.prog.types.size := of_decide_eq_true (by kernel_rfl)
theorem many_types : 6 ≤ Tryd.prog.types.size + 1 := of_decide_eq_true (by kernel_rfl)
theorem laid_out : laidOutB Tryd.prog = true := by kernel_rfl
theorem ky_keyed : Maps.Keyed Tryd.prog 64 := Maps.Keyed.of_law (deep_law_laid laid_out (m := 6) (by omega) ky_row ky_keyT ky_wide2)
theorem ky_kv : KeyV Tryd.prog 64 kyV KyOkT where
  keyed := ky_keyed
  inj := fun {x y} h => by
    simp only [kyV, Value.agg.injEq, Array.mk.injEq, List.cons.injEq, Value.int.injEq, true_and, and_true] at h
    exact Prod.ext h.1 h.2
  reads := fun {x} h => flat_key ky_leaves ky_keyT many_types ky_key ky_cells ky_wide (ky_fits h)
theorem rw_leaves : leaves Tryd.prog 8 32 = some rwLeaves := by kernel_rfl
theorem rw_keyT : Tryd.prog.keyTypeAt 8 32 = true := by kernel_rfl
theorem rw_cells : Tryd.prog.cellsOf 32 = rwLeaves.length := by kernel_rfl
theorem rw_wide : (match Tryd.prog.underlying 32 with | some (.struct _) | some (.array _ _) => true | _ => false) = true := by kernel_rfl
theorem equal_rw {x y : Rw} (h : RwOk x) (h' : RwOk y) (w : World) : (Op.equalIn 10000 32 (.agg #[.int .i64 x.1.1, .int .u64 x.1.2, .int .u64 x.2.1, .int .u64 x.2.2.1, .int .u64 x.2.2.2.1, .int .u64 x.2.2.2.2]) (.agg #[.int .i64 y.1.1, .int .u64 y.1.2, .int .u64 y.2.1, .int .u64 y.2.2.1, .int .u64 y.2.2.2.1, .int .u64 y.2.2.2.2])).run Tryd.prog w = .ok (eqW x y) w := by
  have hE := flat_equal rw_leaves rw_keyT (by omega) rw_cells rw_wide (rw_fits h) (rw_fits h') w
  by_cases e : x = y
  · rw [eqW_iff.2 e]
    exact hE.1 (by rw [e])
  · rw [show eqW x y = false from decide_eq_false e]
    exact hE.2 fun h => e (rwRow_inj h)
theorem eql_rw {a b c d n v a' b' c' d' n' v' : Int} (h : RwOk ((a, b), (c, d, n, v))) (h' : RwOk ((a', b'), (c', d', n', v'))) (w : World) : (binOp .eql 32 (.agg #[.int .i64 a, .int .u64 b, .int .u64 c, .int .u64 d, .int .u64 n, .int .u64 v]) (.agg #[.int .i64 a', .int .u64 b', .int .u64 c', .int .u64 d', .int .u64 n', .int .u64 v'])).run Tryd.prog w = .ok (.bool (eqW ((a, b), (c, d, n, v)) ((a', b'), (c', d', n', v')))) w := by
  rw [run_eql_struct, equal_rw h h']; rfl
theorem neq_rw {a b c d n v a' b' c' d' n' v' : Int} (h : RwOk ((a, b), (c, d, n, v))) (h' : RwOk ((a', b'), (c', d', n', v'))) (w : World) : (binOp .neq 32 (.agg #[.int .i64 a, .int .u64 b, .int .u64 c, .int .u64 d, .int .u64 n, .int .u64 v]) (.agg #[.int .i64 a', .int .u64 b', .int .u64 c', .int .u64 d', .int .u64 n', .int .u64 v'])).run Tryd.prog w = .ok (.bool (!eqW ((a, b), (c, d, n, v)) ((a', b'), (c', d', n', v')))) w := by
  rw [run_neq_struct, equal_rw h h']; rfl
theorem rw_cellsAt {w : World} {a : Addr} {x : Rw} (h : RowAt w a (rwRow x)) :
    w.cell? a = some (.int .i64 x.1.1) ∧ w.cell? ⟨a.block, a.off + 1, none⟩ = some (.int .u64 x.1.2) ∧ w.cell? ⟨a.block, a.off + 2, none⟩ = some (.int .u64 x.2.1) ∧ w.cell? ⟨a.block, a.off + 3, none⟩ = some (.int .u64 x.2.2.1) ∧ w.cell? ⟨a.block, a.off + 4, none⟩ = some (.int .u64 x.2.2.2.1) ∧ w.cell? ⟨a.block, a.off + 5, none⟩ = some (.int .u64 x.2.2.2.2) :=
  ⟨h.head, h.at_ 1 _ rfl (by decide), h.at_ 2 _ rfl (by decide), h.at_ 3 _ rfl (by decide), h.at_ 4 _ rfl (by decide), h.at_ 5 _ rfl (by decide)⟩
theorem ext_getD {α : Type} (z : α) {a b : List α} (hl : a.length = b.length) (h : ∀ j, j < a.length → a.getD j z = b.getD j z) : a = b := by
  refine List.ext_getElem hl (fun j h1 h2 => ?_)
  have := h j h1
  rwa [List.getD_eq_getElem?_getD, List.getD_eq_getElem?_getD, List.getElem?_eq_getElem h1, List.getElem?_eq_getElem h2] at this
/-- A slice of rows. -/
def RwAt (w : World) (A : Option Addr) (l : List Rw) : Prop := ∀ i, i < l.length → ∃ x, A = some x ∧ RowAt w (x.add (i * 6)) (rwRow (l.getD i zeroRw))
theorem RwAt.below {w w1 : World} {A : Option Addr} {l : List Rw} (h : RwAt w A l) (hB : Below w.heap.size w w1) : RwAt w1 A l := fun i hi => by
  obtain ⟨x, h2, h3⟩ := h i hi
  exact ⟨x, h2, h3.far hB⟩
theorem rw_nil (w : World) (A : Option Addr) (l : List Rw) (h : l.length = 0) : RwAt w A l := fun i hi => absurd hi (by omega)
theorem mp_ne_bk {P : Program} {k : TypeId} {K V : Type} {kv : K → Value} {vv : V → Value} {w : World} {b g : Nat} {l : List (K × V)} {cs : Array Value} {t : TypeId} (h : Mp P k kv vv w b l) (h' : Bk w g cs t) : g ≠ b := by
  rintro rfl
  obtain ⟨es, clock, hb, _⟩ := h
  unfold Bk at h'
  rw [hb] at h'
  cases h'
end Go.Proofs.YtebeknnjjoobnaaDoor
