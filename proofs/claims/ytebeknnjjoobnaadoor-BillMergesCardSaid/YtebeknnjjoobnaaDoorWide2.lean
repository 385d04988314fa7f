/- Contracts of the reference's wide numbers, on: Less, Cut, and what is made of them. -/
import Derived.Test.YtebeknnjjoobnaaDoorWide
set_option linter.unusedVariables false
set_option linter.unusedSimpArgs false
namespace Go.Proofs.YtebeknnjjoobnaaDoor
open Go.RowKit


def cutW (m : Int) : Int := if m ≤ 18446744073709551615 then m else 18446744073709551615
theorem cut_limbs (x0 x1 x2 x3 : Int) (w : World) (h2 : 0 ≤ x2 ∧ x2 ≤ 4294967295) (h3 : 0 ≤ x3 ∧ x3 ≤ 4294967295) (h0 : 0 ≤ x0 ∧ x0 ≤ 4294967295) (h1 : 0 ≤ x1 ∧ x1 ≤ 4294967295) :
    Calls Tryd.prog 47 #[.agg #[.int .u64 x0, .int .u64 x1, .int .u64 x2, .int .u64 x3]] w
      fun e w' => e = .returned (.int .u64 (if 0 < x2 + x3 then 18446744073709551615 else x1 * 4294967296 + x0)) ∧ Below w.heap.size w w' := by
  by_cases h : 0 < x2 + x3
  · rw [if_pos h]
    go_enter Tryd.func47, Tryd.ntmps47
    go_wp2
    go_ret
    exact ⟨rfl, by repeat (with_reducible first | exact Below.refl _ _ | apply bl_alloc | apply bl_drewN | apply bl_drew)⟩
  · rw [if_neg h]
    go_enter Tryd.func47, Tryd.ntmps47
    go_wp2
    go_ret
    exact ⟨rfl, by repeat (with_reducible first | exact Below.refl _ _ | apply bl_alloc | apply bl_drewN | apply bl_drew)⟩
theorem cut_any (m : Int) (hm : 0 ≤ m) (hm' : m < 340282366920938463463374607431768211456) (w : World) :
    Calls Tryd.prog 47 #[W4 m] w fun e w' => e = .returned (.int .u64 (cutW m)) ∧ Below w.heap.size w w' := by
  refine (cut_limbs _ _ _ _ w (limb_bd _) (limb_bd _) (limb_bd _) (limb_bd _)).mono ?_
  rintro e w' ⟨rfl, hB⟩
  refine ⟨ret_u64 ?_, hB⟩
  unfold cutW
  split <;> split <;> omega
end Go.Proofs.YtebeknnjjoobnaaDoor
