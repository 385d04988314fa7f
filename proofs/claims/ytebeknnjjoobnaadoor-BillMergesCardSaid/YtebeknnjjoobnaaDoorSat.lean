/- Contracts of package sat's functions and of math/bits that they call: each returns the plain number that is named here; memory stays. -/
import Derived.Test.YtebeknnjjoobnaaDoorBase
import Derived.Laws.Externs
import Derived.Laws.Bits64b
import Derived.Lib.Mul64
import Derived.Lib.BitFns
import Derived.Lib.Strings
import Derived.Lib.Slices
import Derived.Lib.Small
import Derived.Lib.Walk
set_option linter.unusedVariables false
set_option linter.unusedSimpArgs false
namespace Go.Proofs.YtebeknnjjoobnaaDoor
open Go.RowKit


attribute [local go_sem] max2_int min2_int max_two min_two

def satAdd (a b : Int) : Int := if a + b ≤ 18446744073709551615 then a + b else 18446744073709551615
def satMul (a b : Int) : Int := if a * b ≤ 18446744073709551615 then a * b else 18446744073709551615
def satSub (a b : Int) : Int := if b ≤ a then a - b else 0
def satMin (a b : Int) : Int := if b < a then b else a
def satRefill (l r t h : Int) : Int := satMin h (satAdd l (satMul r t))

theorem satAdd_bd {a b : Int} (ha : 0 ≤ a) (hb : 0 ≤ b) : 0 ≤ satAdd a b ∧ satAdd a b ≤ 18446744073709551615 := by unfold satAdd; split <;> omega
theorem satMul_bd {a b : Int} (ha : 0 ≤ a) (hb : 0 ≤ b) : 0 ≤ satMul a b ∧ satMul a b ≤ 18446744073709551615 := by
  have := Int.mul_nonneg ha hb
  unfold satMul; split <;> omega
theorem satRefill_bd {l r t h : Int} (hl : 0 ≤ l) (hr : 0 ≤ r) (ht : 0 ≤ t) (hh : 0 ≤ h) : 0 ≤ satRefill l r t h ∧ satRefill l r t h ≤ h := by
  have h1 := satMul_bd hr ht
  have h2 := satAdd_bd hl h1.1
  unfold satRefill satMin; split <;> omega

theorem run_add64_call (x y : Int) (hx : 0 ≤ x) (hy : 0 ≤ y) (w : World) :
    (callFunc 50 #[.int .u64 x, .int .u64 y, .int .u64 0]).run Tryd.prog w =
      .ok (.value (.tuple #[.int .u64 ((x + y) % 18446744073709551616), .int .u64 ((x + y) / 18446744073709551616)])) w := by
  rw [run_callFunc_extern Tryd.func50 (by kernel_rfl) (by kernel_rfl) (by kernel_rfl) (e := add64Entry) (by kernel_rfl), run_add64 x y 0 hx hy (by omega) (by omega)]
  simp only [Result.andThen, Int.add_zero]

set_option maxHeartbeats 400000 in
theorem add_any (a b : Int) (w : World) (ha : 0 ≤ a) (ha' : a ≤ 18446744073709551615) (hb : 0 ≤ b) (hb' : b ≤ 18446744073709551615) :
    Calls Tryd.prog 38 #[.int .u64 a, .int .u64 b] w fun e w' => e = .returned (.int .u64 (satAdd a b)) ∧ w = w' := by
  have hrun := run_add64_call a b ha hb
  by_cases h : a + b ≤ 18446744073709551615
  · have h1 : (a + b) / 18446744073709551616 = 0 := by omega
    have h2 : (a + b) % 18446744073709551616 = a + b := by omega
    rw [h1, h2] at hrun
    have h3 : satAdd a b = a + b := by unfold satAdd; rw [if_pos h]
    rw [h3]
    clear h1 h2 h3
    go_enter Tryd.func38, Tryd.ntmps38
    go_wp2
    go_ret
    exact ⟨rfl, rfl⟩
  · have h1 : (a + b) / 18446744073709551616 = 1 := by omega
    rw [h1] at hrun
    have h3 : satAdd a b = 18446744073709551615 := by unfold satAdd; rw [if_neg h]
    rw [h3]
    clear h1 h3
    go_enter Tryd.func38, Tryd.ntmps38
    go_wp2
    go_ret
    exact ⟨rfl, rfl⟩



theorem mul_hi0 {a b : Int} (ha : 0 ≤ a) (hb : 0 ≤ b) (h : a * b ≤ 18446744073709551615) : a * b / 18446744073709551616 = 0 ∧ a * b % 18446744073709551616 = a * b := by
  have := Int.mul_nonneg ha hb
  generalize a * b = p at *
  omega
theorem mul_hi1 {a b : Int} (ha : 0 ≤ a) (hb : 0 ≤ b) (h : ¬ a * b ≤ 18446744073709551615) : (a * b / 18446744073709551616 == 0) = false ∧ (a * b / 18446744073709551616 != 0) = true := by
  have := Int.mul_nonneg ha hb
  generalize a * b = p at *
  constructor
  · rw [beq_eq_false_iff_ne]; omega
  · rw [bne_iff_ne]; omega



end Go.Proofs.YtebeknnjjoobnaaDoor
