/- Contracts of package sat's functions and of math/bits that they call: each returns the plain number that is named here; memory stays. -/
import Derived.Test.YtbhhckeccpodmaaBase
import Derived.Laws.Externs
import Derived.Laws.Bits64b
import Derived.Lib.Mul64
import Derived.Lib.BitFns
import Derived.Lib.Strings
import Derived.Lib.Slices
import Derived.Lib.Small
import Derived.Lib.Walk
set_option linter.unusedVariables false
set_option linter.unusedSimpArgs false
namespace Go.Proofs.Ytbhhckeccpodmaa
open Go.RowKit


attribute [local go_sem] max2_int min2_int max_two min_two

def satAdd (a b : Int) : Int := if a + b ≤ 18446744073709551615 then a + b else 18446744073709551615
def satMul (a b : Int) : Int := if a * b ≤ 18446744073709551615 then a * b else 18446744073709551615
def satSub (a b : Int) : Int := if b ≤ a then a - b else 0
def satMin (a b : Int) : Int := if b < a then b else a
def satRefill (l r t h : Int) : Int := satMin h (satAdd l (satMul r t))

theorem satAdd_bd {a b : Int} (ha : 0 ≤ a) (hb : 0 ≤ b) : 0 ≤ satAdd a b ∧ satAdd a b ≤ 18446744073709551615 := by unfold satAdd; split <;> omega
theorem satMul_bd {a b : Int} (ha : 0 ≤ a) (hb : 0 ≤ b) : 0 ≤ satMul a b ∧ satMul a b ≤ 18446744073709551615 := by
  have := Int.mul_nonneg ha hb
  unfold satMul; split <;> omega
theorem satRefill_bd {l r t h : Int} (hl : 0 ≤ l) (hr : 0 ≤ r) (ht : 0 ≤ t) (hh : 0 ≤ h) : 0 ≤ satRefill l r t h ∧ satRefill l r t h ≤ h := by
  have h1 := satMul_bd hr ht
  have h2 := satAdd_bd hl h1.1
  unfold satRefill satMin; split <;> omega

theorem run_add64_call (x y : Int) (hx : 0 ≤ x) (hy : 0 ≤ y) (w : World) :
    (callFunc 52 #[.int .u64 x, .int .u64 y, .int .u64 0]).run Try.prog w =
      .ok (.value (.tuple #[.int .u64 ((x + y) % 18446744073709551616), .int .u64 ((x + y) / 18446744073709551616)])) w := by
  rw [run_callFunc_extern Try.func52 (by kernel_rfl) (by kernel_rfl) (by kernel_rfl) (e := add64Entry) (by kernel_rfl), run_add64 x y 0 hx hy (by omega) (by omega)]
  simp only [Result.andThen, Int.add_zero]

set_option maxHeartbeats 400000 in
theorem add_any (a b : Int) (w : World) (ha : 0 ≤ a) (ha' : a ≤ 18446744073709551615) (hb : 0 ≤ b) (hb' : b ≤ 18446744073709551615) :
    Calls Try.prog 49 #[.int .u64 a, .int .u64 b] w fun e w' => e = .returned (.int .u64 (satAdd a b)) ∧ w = w' := by
  have hrun := run_add64_call a b ha hb
  by_cases h : a + b ≤ 18446744073709551615
  · have h1 : (a + b) / 18446744073709551616 = 0 := by omega
    have h2 : (a + b) % 18446744073709551616 = a + b := by omega
    rw [h1, h2] at hrun
    have h3 : satAdd a b = a + b := by unfold satAdd; rw [if_pos h]
    rw [h3]
    clear h1 h2 h3
    go_enter Try.func49, Try.ntmps49
    go_wp2
    go_ret
    exact ⟨rfl, rfl⟩
  · have h1 : (a + b) / 18446744073709551616 = 1 := by omega
    rw [h1] at hrun
    have h3 : satAdd a b = 18446744073709551615 := by unfold satAdd; rw [if_neg h]
    rw [h3]
    clear h1 h3
    go_enter Try.func49, Try.ntmps49
    go_wp2
    go_ret
    exact ⟨rfl, rfl⟩


namespace Mul64
theorem maskN (a : Nat) (ha : a < 18446744073709551616) : bits .and .u64 (a : Int) 4294967295 = ((a % 4294967296 : Nat) : Int) := by
  have h := bits_and_u64_nat a 4294967295 ha (by omega)
  have e : a &&& 4294967295 = a % 4294967296 := Nat.and_two_pow_sub_one_eq_mod a 32
  rw [e] at h
  exact h
theorem divN (a : Nat) : (a : Int) / 4294967296 = ((a / 4294967296 : Nat) : Int) := by omega
theorem mulN (a b : Nat) : (a : Int) * (b : Int) = ((a * b : Nat) : Int) := (Int.natCast_mul a b).symm
theorem addN (a b : Nat) : (a : Int) + (b : Int) = ((a + b : Nat) : Int) := (Int.natCast_add a b).symm
theorem wrapN (a : Nat) (ha : a < 18446744073709551616) : IntKind.u64.wrap (a : Int) = (a : Int) := by rw [IntKind.wrap_u64]; omega
theorem wrapM (a : Nat) : IntKind.u64.wrap (a : Int) = ((a % 18446744073709551616 : Nat) : Int) := by rw [IntKind.wrap_u64]; omega
end Mul64

set_option maxHeartbeats 1000000 in
theorem mul64_nat (x y : Nat) (hx : x < 18446744073709551616) (hy : y < 18446744073709551616) (w : World) :
    Calls Try.prog 53 #[.int .u64 x, .int .u64 y] w fun e w' => e = .returned (.tuple #[.int .u64 ((x * y / 18446744073709551616 : Nat) : Int), .int .u64 ((x * y % 18446744073709551616 : Nat) : Int)]) ∧ w = w' := by
  obtain ⟨bd, bt, bw, hhi⟩ := Lib.mul64_hi x y hx hy
  have ba := Lib.half_mul_le (a := x / 4294967296) (b := y / 4294967296) (by omega) (by omega)
  have bb := Lib.half_mul_le (a := x / 4294967296) (b := y % 4294967296) (by omega) (by omega)
  have bc := Lib.half_mul_le (a := x % 4294967296) (b := y / 4294967296) (by omega) (by omega)
  have ba' : x / 4294967296 * (y / 4294967296) < 18446744073709551616 := by omega
  have bb' : x / 4294967296 * (y % 4294967296) < 18446744073709551616 := by omega
  have bc' : x % 4294967296 * (y / 4294967296) < 18446744073709551616 := by omega
  have bh1 : x / 4294967296 * (y / 4294967296) + (x / 4294967296 * (y % 4294967296) + x % 4294967296 * (y % 4294967296) / 4294967296) / 4294967296 < 18446744073709551616 := by omega
  have bh : x / 4294967296 * (y / 4294967296) + (x / 4294967296 * (y % 4294967296) + x % 4294967296 * (y % 4294967296) / 4294967296) / 4294967296 + ((x / 4294967296 * (y % 4294967296) + x % 4294967296 * (y % 4294967296) / 4294967296) % 4294967296 + x % 4294967296 * (y / 4294967296)) / 4294967296 < 18446744073709551616 := by omega
  go_enter Try.func53, Try.ntmps53
  go_wp2
  simp only [Mul64.maskN x hx, Mul64.maskN y hy, Mul64.divN, Mul64.mulN, Mul64.addN, Mul64.wrapN _ bd, Mul64.wrapN _ bb', Mul64.wrapN _ bt, Mul64.maskN _ bt, Mul64.wrapN _ bc', Mul64.wrapN _ bw, Mul64.wrapN _ ba', Mul64.wrapN _ bh1, Mul64.wrapN _ bh, Mul64.wrapM (x * y)]
  rw [hhi]
  go_ret2
  exact ⟨rfl, rfl⟩

theorem mul64_any (x y : Int) (hx : 0 ≤ x) (hx' : x ≤ 18446744073709551615) (hy : 0 ≤ y) (hy' : y ≤ 18446744073709551615) (w : World) :
    Calls Try.prog 53 #[.int .u64 x, .int .u64 y] w fun e w' => e = .returned (.tuple #[.int .u64 (x * y / 18446744073709551616), .int .u64 (x * y % 18446744073709551616)]) ∧ w = w' := by
  obtain ⟨a, rfl⟩ := Int.eq_ofNat_of_zero_le hx
  obtain ⟨b, rfl⟩ := Int.eq_ofNat_of_zero_le hy
  have e1 : (a : Int) * b / 18446744073709551616 = ((a * b / 18446744073709551616 : Nat) : Int) := by rw [Mul64.mulN]; omega
  have e2 : (a : Int) * b % 18446744073709551616 = ((a * b % 18446744073709551616 : Nat) : Int) := by rw [Mul64.mulN]; omega
  rw [e1, e2]
  exact mul64_nat a b (by omega) (by omega) w

theorem mul_hi0 {a b : Int} (ha : 0 ≤ a) (hb : 0 ≤ b) (h : a * b ≤ 18446744073709551615) : a * b / 18446744073709551616 = 0 ∧ a * b % 18446744073709551616 = a * b := by
  have := Int.mul_nonneg ha hb
  generalize a * b = p at *
  omega
theorem mul_hi1 {a b : Int} (ha : 0 ≤ a) (hb : 0 ≤ b) (h : ¬ a * b ≤ 18446744073709551615) : (a * b / 18446744073709551616 == 0) = false ∧ (a * b / 18446744073709551616 != 0) = true := by
  have := Int.mul_nonneg ha hb
  generalize a * b = p at *
  constructor
  · rw [beq_eq_false_iff_ne]; omega
  · rw [bne_iff_ne]; omega

set_option maxHeartbeats 400000 in
theorem mul_any (a b : Int) (w : World) (ha : 0 ≤ a) (ha' : a ≤ 18446744073709551615) (hb : 0 ≤ b) (hb' : b ≤ 18446744073709551615) :
    Calls Try.prog 50 #[.int .u64 a, .int .u64 b] w fun e w' => e = .returned (.int .u64 (satMul a b)) ∧ w = w' := by
  have hc := mul64_any a b ha ha' hb hb'
  by_cases h : a * b ≤ 18446744073709551615
  · obtain ⟨h1, h2⟩ := mul_hi0 ha hb h
    have h3 : satMul a b = a * b := by unfold satMul; rw [if_pos h]
    rw [h1, h2] at hc
    rw [h3]
    have hc := Lib.hid hc
    clear h1 h2 h3
    go_enter Try.func50, Try.ntmps50
    go_wp2_with (go_at_call 53; refine (hc.out _).mono ?_; rintro e w' ⟨rfl, rfl⟩)
    go_ret
    exact ⟨rfl, rfl⟩
  · obtain ⟨h1, h2⟩ := mul_hi1 ha hb h
    have h3 : satMul a b = 18446744073709551615 := by unfold satMul; rw [if_neg h]
    rw [h3]
    have hc := Lib.hid hc
    clear h3
    go_enter Try.func50, Try.ntmps50
    go_wp2_with (go_at_call 53; refine (hc.out _).mono ?_; rintro e w' ⟨rfl, rfl⟩)
    go_ret
    exact ⟨rfl, rfl⟩

set_option maxHeartbeats 400000 in
theorem refill_any (l r t h : Int) (w : World) (hl : 0 ≤ l) (hl' : l ≤ 18446744073709551615) (hr : 0 ≤ r) (hr' : r ≤ 18446744073709551615) (ht : 0 ≤ t) (ht' : t ≤ 18446744073709551615) (hh : 0 ≤ h) (hh' : h ≤ 18446744073709551615) :
    Calls Try.prog 46 #[.int .u64 l, .int .u64 r, .int .u64 t, .int .u64 h] w fun e w' => e = .returned (.int .u64 (satRefill l r t h)) ∧ w = w' := by
  have hm := satMul_bd hr ht
  go_enter Try.func46, Try.ntmps46
  go_wp2_with (first | (go_at_call 50; refine (mul_any r t _ hr hr' ht ht').mono ?_; rintro e w' ⟨rfl, rfl⟩) | (go_at_call 49; refine (add_any l (satMul r t) _ hl hl' hm.1 hm.2).mono ?_; rintro e w' ⟨rfl, rfl⟩))
  all_goals
    go_ret
    exact ⟨ret_u64 (by unfold satRefill satMin; split <;> omega), rfl⟩

end Go.Proofs.Ytbhhckeccpodmaa
