/- Contracts of the rest of package sat: Shl, Shr, Log, Cross, Int, Uint, and what they call in cmp and math/bits. -/
import Derived.Test.YtebeknnjjoobnaaDoorSat
import Derived.Test.YtebeknnjjoobnaaDoorLen
import Derived.LoopTactic
import Derived.Deep.QuietTactic
import Derived.BigQuiet
import Derived.Lib.ItoaNum
set_option linter.unusedVariables false
set_option linter.unusedSimpArgs false
namespace Go.Proofs.YtebeknnjjoobnaaDoor
open Go.RowKit
attribute [local go_sem] max2_int min2_int max_two min_two

def cmpU (a b : Int) : Int := if a < b then -1 else if b < a then 1 else 0
def bitL (a : Int) : Int := Lib.bitLen a.toNat
theorem bitL_bd (a : Int) (h0 : 0 ≤ a) (h1 : a ≤ 18446744073709551615) : 0 ≤ bitL a ∧ bitL a ≤ 64 := by
  have := Lib.bitLen_le a.toNat 64 (Nat.le_refl _) (by omega)
  unfold bitL; omega



theorem compare_any (a b : Int) (w : World) :
    Calls Tryd.prog 29 #[.int .u64 a, .int .u64 b] w fun e w' => e = .returned (.int .i64 (cmpU a b)) ∧ w = w' := by
  go_enter Tryd.func29, Tryd.ntmps29
  go_wp2
  all_goals
    go_ret
    exact ⟨ret_i64 (by unfold cmpU; repeat (first | rw [if_pos (by omega)] | rw [if_neg (by omega)])), rfl⟩




theorem shift_shr_u64_far (x y : Int) (hx : 0 ≤ x) (hx' : x ≤ 18446744073709551615) (h : 64 < y) : Op.shift .shr .u64 x .i64 y = pure (.int .u64 0) := by
  have hm : min y.toNat IntKind.u64.bits = 64 := by simp only [IntKind.bits]; omega
  have e : x / 18446744073709551616 = 0 := by omega
  have h2 : ¬ y < 0 := by omega
  simp [Op.shift, hm, Int.fdiv_eq_ediv_of_nonneg _ (show (0 : Int) ≤ 18446744073709551616 by decide), e, h2]

theorem pow_pos' (n : Nat) : 0 < (2 : Int) ^ n := Int.pow_pos (by decide)
theorem div_pow_far (x : Int) (n : Nat) (hx : 0 ≤ x) (hx' : x ≤ 18446744073709551615) (h : 64 ≤ n) : x / 2 ^ n = 0 := by
  have h1 : (2 : Nat) ^ 64 ≤ 2 ^ n := Nat.pow_le_pow_right (by decide) h
  have h2 : ((2 ^ n : Nat) : Int) = (2 : Int) ^ n := by simp
  rw [Int.ediv_eq_zero_of_lt hx (by rw [← h2]; omega)]

def satShr (a n : Int) : Int := if n ≤ 0 then a else a / 2 ^ n.toNat
def satShl (a n : Int) : Int := if n ≤ 0 ∨ a = 0 then a else if 64 - bitL a < n then 18446744073709551615 else a * 2 ^ n.toNat


theorem bitL_up (a n : Int) (h0 : 0 < a) (h1 : a ≤ 18446744073709551615) (hn : 0 ≤ n) (hn' : n ≤ 64 - bitL a) : a * 2 ^ n.toNat ≤ 18446744073709551615 := by
  obtain ⟨h2, _, h3⟩ := Lib.bitLenAux_bounds 64 a.toNat (by omega) (by omega)
  unfold bitL Lib.bitLen at hn'
  generalize Lib.bitLenAux 64 a.toNat = L at *
  have h4 : a.toNat * 2 ^ n.toNat < 2 ^ L * 2 ^ n.toNat := Nat.mul_lt_mul_of_pos_right h3 (Nat.pow_pos (by decide))
  rw [← Nat.pow_add] at h4
  have h5 : (2 : Nat) ^ (L + n.toNat) ≤ 2 ^ 64 := Nat.pow_le_pow_right (by decide) (by omega)
  have h6 : ((a.toNat * 2 ^ n.toNat : Nat) : Int) = a * 2 ^ n.toNat := by
    rw [Int.natCast_mul, Int.toNat_of_nonneg (by omega)]; simp
  omega


def orI (x y : Int) : Int := if x = 0 then y else x
theorem orI_zero (y : Int) : orI 0 y = y := rfl
theorem orI_ne {x : Int} (y : Int) (h : x ≠ 0) : orI x y = x := if_neg h
theorem or_two (b : Nat) (x y : Int) (w : World) (h0 : w.cell? ⟨b, 0, none⟩ = some (.int .i64 x)) (h1 : w.cell? ⟨b, 1, none⟩ = some (.int .i64 y)) :
    Calls Tryd.prog 27 #[.slice (some ⟨b, 0, none⟩) 2 2] w fun e w' => e = .returned (.int .i64 (orI x y)) ∧ w = w' := by
  by_cases hx : x = 0
  · subst hx
    rw [orI_zero]
    by_cases hy : y = 0
    · subst hy
      go_enter Tryd.func27, Tryd.ntmps27
      go_wp2
      refine wp_loop_rounds 3 ?_
      rw [rounds_succ]
      go_wp2
      rw [rounds_succ]
      go_wp2
      rw [rounds_succ]
      go_wp2
      go_ret
      exact ⟨rfl, rfl⟩
    · have hy0 : (y != 0) = true := by simpa using hy
      clear hy
      go_enter Tryd.func27, Tryd.ntmps27
      go_wp2
      refine wp_loop_rounds 3 ?_
      rw [rounds_succ]
      go_wp2
      rw [rounds_succ]
      go_wp2
      go_ret
      exact ⟨rfl, rfl⟩
  · rw [orI_ne y hx]
    have hx0 : (x != 0) = true := by simpa using hx
    clear hx
    go_enter Tryd.func27, Tryd.ntmps27
    go_wp2
    refine wp_loop_rounds 3 ?_
    rw [rounds_succ]
    go_wp2
    go_ret
    exact ⟨rfl, rfl⟩

end Go.Proofs.YtebeknnjjoobnaaDoor
