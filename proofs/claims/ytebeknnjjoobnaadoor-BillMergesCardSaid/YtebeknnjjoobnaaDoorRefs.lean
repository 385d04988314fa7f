/- Contracts of the reference's saturating numbers: Add, Sub, Mul, Shl, Shr, Log, Refill, Cross. -/
import Derived.Test.YtebeknnjjoobnaaDoorWide2
import Derived.LoopTactic
import Derived.Deep.RegionHeld3
set_option linter.unusedVariables false
set_option linter.unusedSimpArgs false
namespace Go.Proofs.YtebeknnjjoobnaaDoor
open Go.RowKit
attribute [local go_sem] max2_int min2_int max_two min_two

theorem cutW_add (a b : Int) : cutW (a + b) = satAdd a b := rfl
theorem cutW_mul (a b : Int) : cutW (a * b) = satMul a b := rfl
theorem wide_mul {a b : Int} (ha : 0 ≤ a) (ha' : a ≤ 18446744073709551615) (hb : 0 ≤ b) (hb' : b ≤ 18446744073709551615) : 0 ≤ a * b ∧ a * b ≤ 340282366920938463426481119284349108225 := by
  have h1 := Int.mul_nonneg ha hb
  have h2 : a * b ≤ 18446744073709551615 * 18446744073709551615 := Int.mul_le_mul ha' hb' hb (by decide)
  omega

theorem radd_any (a b : Int) (w : World) (ha : 0 ≤ a) (ha' : a ≤ 18446744073709551615) (hb : 0 ≤ b) (hb' : b ≤ 18446744073709551615) :
    Calls Tryd.prog 36 #[.int .u64 a, .int .u64 b] w fun e w' => e = .returned (.int .u64 (satAdd a b)) ∧ Below w.heap.size w w' := by
  go_enter Tryd.func36, Tryd.ntmps36
  go_wp2_with (first | (go_at_call 49; (with_reducible refine (of_any a _ ha ha').mono ?_); rintro e w1 ⟨rfl, hB1⟩) | (go_at_call 49; (with_reducible refine (of_any b _ hb hb').mono ?_); rintro e w2 ⟨rfl, hB2⟩) | (go_at_call 48; (with_reducible refine (plus_any a b _).mono ?_); rintro e w3 ⟨rfl, hB3⟩) | (go_at_call 47; (with_reducible refine (cut_any (a + b) (by omega) (by omega) _).mono ?_); rintro e w4 ⟨rfl, hB4⟩))
  go_ret
  exact ⟨rfl, bl_then (bl_then (bl_then hB1 hB2) hB3) hB4⟩




end Go.Proofs.YtebeknnjjoobnaaDoor
