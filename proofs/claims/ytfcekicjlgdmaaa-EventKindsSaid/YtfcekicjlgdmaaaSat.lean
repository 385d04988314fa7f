/- Contracts of package sat's functions and of math/bits that they call: each returns the plain number that is named here; memory stays. -/
import Derived.Test.YtfcekicjlgdmaaaBase
import Derived.Laws.Externs
import Derived.Laws.Bits64b
import Derived.Lib.Mul64
import Derived.Lib.BitFns
import Derived.Lib.Strings
import Derived.Lib.Slices
import Derived.Lib.Small
import Derived.Lib.Walk
set_option linter.unusedVariables false
set_option linter.unusedSimpArgs false
namespace Go.Proofs.Ytfcekicjlgdmaaa
open Go.RowKit


attribute [local go_sem] max2_int min2_int max_two min_two

def satAdd (a b : Int) : Int := if a + b ≤ 18446744073709551615 then a + b else 18446744073709551615
def satMul (a b : Int) : Int := if a * b ≤ 18446744073709551615 then a * b else 18446744073709551615
def satSub (a b : Int) : Int := if b ≤ a then a - b else 0
def satMin (a b : Int) : Int := if b < a then b else a
def satRefill (l r t h : Int) : Int := satMin h (satAdd l (satMul r t))

theorem satAdd_bd {a b : Int} (ha : 0 ≤ a) (hb : 0 ≤ b) : 0 ≤ satAdd a b ∧ satAdd a b ≤ 18446744073709551615 := by unfold satAdd; split <;> omega
theorem satMul_bd {a b : Int} (ha : 0 ≤ a) (hb : 0 ≤ b) : 0 ≤ satMul a b ∧ satMul a b ≤ 18446744073709551615 := by
  have := Int.mul_nonneg ha hb
  unfold satMul; split <;> omega
theorem satRefill_bd {l r t h : Int} (hl : 0 ≤ l) (hr : 0 ≤ r) (ht : 0 ≤ t) (hh : 0 ≤ h) : 0 ≤ satRefill l r t h ∧ satRefill l r t h ≤ h := by
  have h1 := satMul_bd hr ht
  have h2 := satAdd_bd hl h1.1
  unfold satRefill satMin; split <;> omega





theorem mul_hi0 {a b : Int} (ha : 0 ≤ a) (hb : 0 ≤ b) (h : a * b ≤ 18446744073709551615) : a * b / 18446744073709551616 = 0 ∧ a * b % 18446744073709551616 = a * b := by
  have := Int.mul_nonneg ha hb
  generalize a * b = p at *
  omega
theorem mul_hi1 {a b : Int} (ha : 0 ≤ a) (hb : 0 ≤ b) (h : ¬ a * b ≤ 18446744073709551615) : (a * b / 18446744073709551616 == 0) = false ∧ (a * b / 18446744073709551616 != 0) = true := by
  have := Int.mul_nonneg ha hb
  generalize a * b = p at *
  constructor
  · rw [beq_eq_false_iff_ne]; omega
  · rw [bne_iff_ne]; omega



end Go.Proofs.Ytfcekicjlgdmaaa
