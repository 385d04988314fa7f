/- Contracts of the reference's wide numbers (floodgateref01): Of, Plus, Times, Less, Cut, and what is made of them. -/
import Derived.Test.YtebeknnjjoobnaaDoorSat2
import Derived.Below
import Derived.Deep.QuietTactic
import Derived.BigQuiet
import Derived.Deep.DeepCutAuto
set_option linter.unusedVariables false
set_option linter.unusedSimpArgs false
namespace Go.Proofs.YtebeknnjjoobnaaDoor
open Go.RowKit
attribute [local go_sem] max2_int min2_int max_two min_two

/-- A wide number as the reference has it: four parts of 32 bits, the lowest first. -/
def W4 (n : Int) : Value := .agg #[.int .u64 (n % 4294967296), .int .u64 (n / 4294967296 % 4294967296), .int .u64 (n / 4294967296 / 4294967296 % 4294967296), .int .u64 (n / 4294967296 / 4294967296 / 4294967296 % 4294967296)]

theorem ret_wide {a b c d a' b' c' d' : Int} (h0 : a = a') (h1 : b = b') (h2 : c = c') (h3 : d = d') :
    Ending.returned (.agg #[.int .u64 a, .int .u64 b, .int .u64 c, .int .u64 d]) = .returned (.agg #[.int .u64 a', .int .u64 b', .int .u64 c', .int .u64 d']) := by rw [h0, h1, h2, h3]

set_option maxHeartbeats 400000 in
theorem of_limbs (a : Int) (w : World) (h0 : 0 ≤ a) (h1 : a ≤ 18446744073709551615) :
    Calls Tryd.prog 49 #[.int .u64 a] w fun e w' => e = .returned (.agg #[.int .u64 (a % 4294967296), .int .u64 (a / 4294967296), .int .u64 0, .int .u64 0]) ∧ Below w.heap.size w w' := by
  go_enter Tryd.func49, Tryd.ntmps49
  go_wp2
  refine bodyPost_ret (v := .agg #[.int .u64 (a % 4294967296), .int .u64 (a / 4294967296), .int .u64 0, .int .u64 0]) (by simp [results, Tryd.results49, go_sem]) rfl ⟨rfl, ?_⟩
  repeat (with_reducible first | exact Below.refl _ _ | apply bl_alloc | apply bl_drewN | apply bl_drew | refine bl_set ?_ (by dsimp only; omega) _)

theorem W4_small (a : Int) (h0 : 0 ≤ a) (h1 : a ≤ 18446744073709551615) : W4 a = .agg #[.int .u64 (a % 4294967296), .int .u64 (a / 4294967296), .int .u64 0, .int .u64 0] := by
  unfold W4
  rw [show a / 4294967296 % 4294967296 = a / 4294967296 by omega, show a / 4294967296 / 4294967296 % 4294967296 = 0 by omega, show a / 4294967296 / 4294967296 / 4294967296 % 4294967296 = 0 by omega]
theorem W4_small1 (a : Int) (h0 : 0 ≤ a) (h1 : a ≤ 18446744073709551615) : W4 (a * 4294967296) = .agg #[.int .u64 0, .int .u64 (a % 4294967296), .int .u64 (a / 4294967296), .int .u64 0] := by
  unfold W4
  rw [show a * 4294967296 / 4294967296 = a by omega, show a * 4294967296 % 4294967296 = 0 by omega, show a / 4294967296 % 4294967296 = a / 4294967296 by omega, show a / 4294967296 / 4294967296 % 4294967296 = 0 by omega]
theorem W4_small2 (a : Int) (h0 : 0 ≤ a) (h1 : a ≤ 18446744073709551615) : W4 (a * 4294967296 * 4294967296) = .agg #[.int .u64 0, .int .u64 0, .int .u64 (a % 4294967296), .int .u64 (a / 4294967296)] := by
  unfold W4
  rw [show a * 4294967296 * 4294967296 / 4294967296 = a * 4294967296 by omega, show a * 4294967296 * 4294967296 % 4294967296 = 0 by omega, show a * 4294967296 % 4294967296 = 0 by omega, show a * 4294967296 / 4294967296 = a by omega, show a / 4294967296 % 4294967296 = a / 4294967296 by omega]
theorem W4_zero : W4 0 = .agg #[.int .u64 0, .int .u64 0, .int .u64 0, .int .u64 0] := rfl
theorem W4_open (n : Int) : ∃ a b c d : Int, W4 n = .agg #[.int .u64 a, .int .u64 b, .int .u64 c, .int .u64 d] := ⟨_, _, _, _, rfl⟩

theorem of_any (a : Int) (w : World) (h0 : 0 ≤ a) (h1 : a ≤ 18446744073709551615) :
    Calls Tryd.prog 49 #[.int .u64 a] w fun e w' => e = .returned (W4 a) ∧ Below w.heap.size w w' := by
  rw [W4_small a h0 h1]
  exact of_limbs a w h0 h1

set_option maxHeartbeats 1000000 in
set_option maxRecDepth 100000 in
theorem plus_limbs (x0 x1 x2 x3 y0 y1 y2 y3 : Int) (w : World) (hx0 : 0 ≤ x0 ∧ x0 ≤ 4294967295) (hx1 : 0 ≤ x1 ∧ x1 ≤ 4294967295) (hx2 : 0 ≤ x2 ∧ x2 ≤ 4294967295) (hx3 : 0 ≤ x3 ∧ x3 ≤ 4294967295)
    (hy0 : 0 ≤ y0 ∧ y0 ≤ 4294967295) (hy1 : 0 ≤ y1 ∧ y1 ≤ 4294967295) (hy2 : 0 ≤ y2 ∧ y2 ≤ 4294967295) (hy3 : 0 ≤ y3 ∧ y3 ≤ 4294967295) :
    Calls Tryd.prog 48 #[.agg #[.int .u64 x0, .int .u64 x1, .int .u64 x2, .int .u64 x3], .agg #[.int .u64 y0, .int .u64 y1, .int .u64 y2, .int .u64 y3]] w
      fun e w' => e = .returned (.agg #[.int .u64 ((x0 + y0) % 4294967296), .int .u64 ((x1 + y1 + (x0 + y0) / 4294967296) % 4294967296), .int .u64 ((x2 + y2 + (x1 + y1 + (x0 + y0) / 4294967296) / 4294967296) % 4294967296), .int .u64 ((x3 + y3 + (x2 + y2 + (x1 + y1 + (x0 + y0) / 4294967296) / 4294967296) / 4294967296) % 4294967296)]) ∧ Below w.heap.size w w' := by
  go_enter Tryd.func48, Tryd.ntmps48
  go_wp2
  refine wp_loop_rounds 5 ?_
  rw [rounds_succ]
  go_wp2
  go_quiet (fail)
  go_wp2
  rw [rounds_succ]
  go_wp2
  go_quiet (fail)
  go_wp2
  rw [rounds_succ]
  go_wp2
  go_quiet (fail)
  go_wp2
  rw [rounds_succ]
  go_wp2
  go_quiet (fail)
  go_wp2
  rw [rounds_succ]
  go_wp2
  refine bodyPost_ret (v := .agg #[.int .u64 ((x0 + y0) % 4294967296), .int .u64 ((x1 + y1 + (x0 + y0) / 4294967296) % 4294967296), .int .u64 ((x2 + y2 + (x1 + y1 + (x0 + y0) / 4294967296) / 4294967296) % 4294967296), .int .u64 ((x3 + y3 + (x2 + y2 + (x1 + y1 + (x0 + y0) / 4294967296) / 4294967296) / 4294967296) % 4294967296)])
    (by simp [results, Tryd.results48, go_sem]) rfl ⟨rfl, ?_⟩
  repeat (with_reducible first | exact Below.refl _ _ | apply bl_alloc | apply bl_drewN | apply bl_drew | refine bl_set ?_ (by dsimp only; omega) _)

theorem limb_step (m n c : Int) : (m + n + c) % 4294967296 = (m % 4294967296 + n % 4294967296 + c) % 4294967296 ∧ (m + n + c) / 4294967296 = m / 4294967296 + n / 4294967296 + (m % 4294967296 + n % 4294967296 + c) / 4294967296 := by omega
theorem limb_bd (n : Int) : 0 ≤ n % 4294967296 ∧ n % 4294967296 ≤ 4294967295 := by omega

theorem plus_any (m n : Int) (w : World) : Calls Tryd.prog 48 #[W4 m, W4 n] w fun e w' => e = .returned (W4 (m + n)) ∧ Below w.heap.size w w' := by
  unfold W4
  refine (plus_limbs _ _ _ _ _ _ _ _ w (limb_bd _) (limb_bd _) (limb_bd _) (limb_bd _) (limb_bd _) (limb_bd _) (limb_bd _) (limb_bd _)).mono ?_
  rintro e w' ⟨rfl, hB⟩
  obtain ⟨a0, b0⟩ := limb_step m n 0
  rw [Int.add_zero, Int.add_zero] at a0 b0
  obtain ⟨a1, b1⟩ := limb_step (m / 4294967296) (n / 4294967296) ((m % 4294967296 + n % 4294967296) / 4294967296)
  obtain ⟨a2, b2⟩ := limb_step (m / 4294967296 / 4294967296) (n / 4294967296 / 4294967296) ((m / 4294967296 % 4294967296 + n / 4294967296 % 4294967296 + (m % 4294967296 + n % 4294967296) / 4294967296) / 4294967296)
  obtain ⟨a3, b3⟩ := limb_step (m / 4294967296 / 4294967296 / 4294967296) (n / 4294967296 / 4294967296 / 4294967296) ((m / 4294967296 / 4294967296 % 4294967296 + n / 4294967296 / 4294967296 % 4294967296 + (m / 4294967296 % 4294967296 + n / 4294967296 % 4294967296 + (m % 4294967296 + n % 4294967296) / 4294967296) / 4294967296) / 4294967296)
  rw [← b2, ← b1, ← b0] at a3
  rw [← b1, ← b0] at a2
  rw [← b0] at a1
  exact ⟨ret_wide a0.symm a1.symm a2.symm a3.symm, hB⟩


end Go.Proofs.YtebeknnjjoobnaaDoor
