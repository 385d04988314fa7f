/- Contracts of the rest of package sat: Shl, Shr, Log, Cross, Int, Uint, and what they call in cmp and math/bits. -/
import Derived.Test.YtnepgeofdacgkaaSat
import Derived.Test.YtnepgeofdacgkaaLen
import Derived.LoopTactic
import Derived.Deep.QuietTactic
import Derived.BigQuiet
import Derived.Lib.ItoaNum
set_option linter.unusedVariables false
set_option linter.unusedSimpArgs false
namespace Go.Proofs.Ytnepgeofdacgkaa
open Go.RowKit
attribute [local go_sem] max2_int min2_int max_two min_two

def cmpU (a b : Int) : Int := if a < b then -1 else if b < a then 1 else 0
def bitL (a : Int) : Int := Lib.bitLen a.toNat
theorem bitL_bd (a : Int) (h0 : 0 ≤ a) (h1 : a ≤ 18446744073709551615) : 0 ≤ bitL a ∧ bitL a ≤ 64 := by
  have := Lib.bitLen_le a.toNat 64 (Nat.le_refl _) (by omega)
  unfold bitL; omega

theorem log_any (a : Int) (w : World) (h0 : 0 ≤ a) (h1 : a ≤ 18446744073709551615) :
    Calls Try.prog 29 #[.int .u64 a] w fun e w' => e = .returned (.int .i64 (bitL a)) ∧ w = w' := by
  go_enter Try.func29, Try.ntmps29
  go_wp2_with (go_at_call 41; refine (len64_any a _ h0 h1).mono ?_; rintro e w' ⟨rfl, rfl⟩)
  go_ret
  exact ⟨rfl, rfl⟩

theorem lead_any (a : Int) (w : World) (h0 : 0 ≤ a) (h1 : a ≤ 18446744073709551615) :
    Calls Try.prog 40 #[.int .u64 a] w fun e w' => e = .returned (.int .i64 (64 - bitL a)) ∧ w = w' := by
  have hb := bitL_bd a h0 h1
  go_enter Try.func40, Try.ntmps40
  go_wp2_with (go_at_call 41; refine (len64_any a _ h0 h1).mono ?_; rintro e w' ⟨rfl, rfl⟩)
  go_ret
  exact ⟨ret_i64 (by unfold bitL wrap64 at *; omega), rfl⟩

theorem compare_any (a b : Int) (w : World) :
    Calls Try.prog 38 #[.int .u64 a, .int .u64 b] w fun e w' => e = .returned (.int .i64 (cmpU a b)) ∧ w = w' := by
  go_enter Try.func38, Try.ntmps38
  go_wp2
  all_goals
    go_ret
    exact ⟨ret_i64 (by unfold cmpU; repeat (first | rw [if_pos (by omega)] | rw [if_neg (by omega)])), rfl⟩

def satInt (a : Int) : Int := if a ≤ 9223372036854775807 then a else 0
theorem int_any (a : Int) (w : World) (h0 : 0 ≤ a) (h1 : a ≤ 18446744073709551615) :
    Calls Try.prog 23 #[.int .u64 a] w fun e w' => e = .returned (.tuple #[.int .i64 (satInt a), .bool (decide (a ≤ 9223372036854775807))]) ∧ w = w' := by
  go_enter Try.func23, Try.ntmps23
  go_wp2
  all_goals
    go_ret2
    exact ⟨ret_ib (by unfold satInt; first | rw [if_pos (by omega)] | rw [if_neg (by omega)]) (by simp; omega), rfl⟩

def satUint (a : Int) : Int := if 0 ≤ a then a else 0
theorem uint_any (a : Int) (w : World) (h0 : -9223372036854775808 ≤ a) (h1 : a ≤ 9223372036854775807) :
    Calls Try.prog 24 #[.int .i64 a] w fun e w' => e = .returned (.tuple #[.int .u64 (satUint a), .bool (decide (0 ≤ a))]) ∧ w = w' := by
  go_enter Try.func24, Try.ntmps24
  go_wp2
  all_goals
    go_ret2
    exact ⟨ret_ub (by unfold satUint; first | rw [if_pos (by omega)] | rw [if_neg (by omega)]) (by simp; omega), rfl⟩


theorem shift_shr_u64_far (x y : Int) (hx : 0 ≤ x) (hx' : x ≤ 18446744073709551615) (h : 64 < y) : Op.shift .shr .u64 x .i64 y = pure (.int .u64 0) := by
  have hm : min y.toNat IntKind.u64.bits = 64 := by simp only [IntKind.bits]; omega
  have e : x / 18446744073709551616 = 0 := by omega
  have h2 : ¬ y < 0 := by omega
  simp [Op.shift, hm, Int.fdiv_eq_ediv_of_nonneg _ (show (0 : Int) ≤ 18446744073709551616 by decide), e, h2]

theorem pow_pos' (n : Nat) : 0 < (2 : Int) ^ n := Int.pow_pos (by decide)
theorem div_pow_far (x : Int) (n : Nat) (hx : 0 ≤ x) (hx' : x ≤ 18446744073709551615) (h : 64 ≤ n) : x / 2 ^ n = 0 := by
  have h1 : (2 : Nat) ^ 64 ≤ 2 ^ n := Nat.pow_le_pow_right (by decide) h
  have h2 : ((2 ^ n : Nat) : Int) = (2 : Int) ^ n := by simp
  rw [Int.ediv_eq_zero_of_lt hx (by rw [← h2]; omega)]

def satShr (a n : Int) : Int := if n ≤ 0 then a else a / 2 ^ n.toNat
def satShl (a n : Int) : Int := if n ≤ 0 ∨ a = 0 then a else if 64 - bitL a < n then 18446744073709551615 else a * 2 ^ n.toNat

theorem shr_any (a n : Int) (w : World) (h0 : 0 ≤ a) (h1 : a ≤ 18446744073709551615) (hn : -9223372036854775808 ≤ n) (hn' : n ≤ 9223372036854775807) :
    Calls Try.prog 26 #[.int .u64 a, .int .i64 n] w fun e w' => e = .returned (.int .u64 (satShr a n)) ∧ w = w' := by
  unfold satShr
  by_cases h : n ≤ 0
  · rw [if_pos h]
    go_enter Try.func26, Try.ntmps26
    go_wp2
    go_ret
    exact ⟨rfl, rfl⟩
  · rw [if_neg h]
    by_cases h2 : n ≤ 64
    · go_enter Try.func26, Try.ntmps26
      go_wp2
      go_ret
      exact ⟨rfl, rfl⟩
    · rw [div_pow_far a n.toNat h0 h1 (by omega)]
      have hs := shift_shr_u64_far a n h0 h1 (by omega)
      go_enter Try.func26, Try.ntmps26
      go_wp2
      go_ret
      exact ⟨rfl, rfl⟩

theorem bitL_up (a n : Int) (h0 : 0 < a) (h1 : a ≤ 18446744073709551615) (hn : 0 ≤ n) (hn' : n ≤ 64 - bitL a) : a * 2 ^ n.toNat ≤ 18446744073709551615 := by
  obtain ⟨h2, _, h3⟩ := Lib.bitLenAux_bounds 64 a.toNat (by omega) (by omega)
  unfold bitL Lib.bitLen at hn'
  generalize Lib.bitLenAux 64 a.toNat = L at *
  have h4 : a.toNat * 2 ^ n.toNat < 2 ^ L * 2 ^ n.toNat := Nat.mul_lt_mul_of_pos_right h3 (Nat.pow_pos (by decide))
  rw [← Nat.pow_add] at h4
  have h5 : (2 : Nat) ^ (L + n.toNat) ≤ 2 ^ 64 := Nat.pow_le_pow_right (by decide) (by omega)
  have h6 : ((a.toNat * 2 ^ n.toNat : Nat) : Int) = a * 2 ^ n.toNat := by
    rw [Int.natCast_mul, Int.toNat_of_nonneg (by omega)]; simp
  omega

theorem shl_any (a n : Int) (w : World) (h0 : 0 ≤ a) (h1 : a ≤ 18446744073709551615) (hn : -9223372036854775808 ≤ n) (hn' : n ≤ 9223372036854775807) :
    Calls Try.prog 25 #[.int .u64 a, .int .i64 n] w fun e w' => e = .returned (.int .u64 (satShl a n)) ∧ w = w' := by
  have hb := bitL_bd a h0 h1
  unfold satShl
  by_cases hz : n ≤ 0
  · rw [if_pos (.inl hz)]
    go_enter Try.func25, Try.ntmps25
    go_wp2
    go_ret
    exact ⟨rfl, rfl⟩
  by_cases ha : a = 0
  · rw [if_pos (.inr ha)]
    subst ha
    go_enter Try.func25, Try.ntmps25
    go_wp2
    go_ret
    exact ⟨rfl, rfl⟩
  have ha0 : (a == 0) = false := by simpa using ha
  rw [if_neg (by omega)]
  by_cases hl : 64 - bitL a < n
  · rw [if_pos hl]
    clear ha
    go_enter Try.func25, Try.ntmps25
    go_wp2_with (go_at_call 40; refine (lead_any a _ h0 h1).mono ?_; rintro e w' ⟨rfl, rfl⟩)
    go_ret
    exact ⟨rfl, rfl⟩
  · rw [if_neg hl]
    have hup := bitL_up a n (by omega) h1 (by omega) (by omega)
    have hpp := Int.mul_nonneg h0 (Int.le_of_lt (pow_pos' n.toNat))
    clear ha
    go_enter Try.func25, Try.ntmps25
    go_wp2_with (go_at_call 40; refine (lead_any a _ h0 h1).mono ?_; rintro e w' ⟨rfl, rfl⟩)
    go_ret
    exact ⟨rfl, rfl⟩

def orI (x y : Int) : Int := if x = 0 then y else x
theorem orI_zero (y : Int) : orI 0 y = y := rfl
theorem orI_ne {x : Int} (y : Int) (h : x ≠ 0) : orI x y = x := if_neg h
theorem or_two (b : Nat) (x y : Int) (w : World) (h0 : w.cell? ⟨b, 0, none⟩ = some (.int .i64 x)) (h1 : w.cell? ⟨b, 1, none⟩ = some (.int .i64 y)) :
    Calls Try.prog 37 #[.slice (some ⟨b, 0, none⟩) 2 2] w fun e w' => e = .returned (.int .i64 (orI x y)) ∧ w = w' := by
  by_cases hx : x = 0
  · subst hx
    rw [orI_zero]
    by_cases hy : y = 0
    · subst hy
      go_enter Try.func37, Try.ntmps37
      go_wp2
      refine wp_loop_rounds 3 ?_
      rw [rounds_succ]
      go_wp2
      rw [rounds_succ]
      go_wp2
      rw [rounds_succ]
      go_wp2
      go_ret
      exact ⟨rfl, rfl⟩
    · have hy0 : (y != 0) = true := by simpa using hy
      clear hy
      go_enter Try.func37, Try.ntmps37
      go_wp2
      refine wp_loop_rounds 3 ?_
      rw [rounds_succ]
      go_wp2
      rw [rounds_succ]
      go_wp2
      go_ret
      exact ⟨rfl, rfl⟩
  · rw [orI_ne y hx]
    have hx0 : (x != 0) = true := by simpa using hx
    clear hx
    go_enter Try.func37, Try.ntmps37
    go_wp2
    refine wp_loop_rounds 3 ?_
    rw [rounds_succ]
    go_wp2
    go_ret
    exact ⟨rfl, rfl⟩

def satCross (a b c d : Int) : Int := cmpU (a * b) (c * d)
theorem cross_eq (p q : Int) (hp : 0 ≤ p) (hq : 0 ≤ q) :
    orI (cmpU (p / 18446744073709551616) (q / 18446744073709551616)) (cmpU (p % 18446744073709551616) (q % 18446744073709551616)) = cmpU p q := by
  unfold orI cmpU
  split <;> split <;> split <;> (try split) <;> (try split) <;> (try split) <;> omega
theorem cross_any (a b c d : Int) (w : World) (ha : 0 ≤ a) (ha' : a ≤ 18446744073709551615) (hb : 0 ≤ b) (hb' : b ≤ 18446744073709551615) (hc : 0 ≤ c) (hc' : c ≤ 18446744073709551615) (hd : 0 ≤ d) (hd' : d ≤ 18446744073709551615) :
    Calls Try.prog 15 #[.int .u64 a, .int .u64 b, .int .u64 c, .int .u64 d] w fun e w' => e = .returned (.int .i64 (satCross a b c d)) ∧ Below w.heap.size w w' := by
  have H := Lib.hid (cross_eq (a * b) (c * d) (Int.mul_nonneg ha hb) (Int.mul_nonneg hc hd))
  go_enter Try.func15, Try.ntmps15
  go_wp2_with (first | (go_at_call 36; (with_reducible refine (mul64_any a b ha ha' hb hb' _).mono ?_); rintro e w' ⟨rfl, rfl⟩) | (go_at_call 36; refine (mul64_any c d hc hc' hd hd' _).mono ?_; rintro e w' ⟨rfl, rfl⟩) | (go_at_call 38; refine (compare_any _ _ _).mono ?_; rintro e w' ⟨rfl, rfl⟩))
  refine (or_two w.heap.size _ _ _ (by exact cell_new _ _ _ 0 _ rfl) (by exact cell_new _ _ _ 1 _ rfl)).mono ?_
  rintro e w' ⟨rfl, rfl⟩
  go_wp2
  go_ret
  exact ⟨ret_i64 H.out, (Below.refl _ _).alloc (Nat.le_refl _) _⟩
end Go.Proofs.Ytnepgeofdacgkaa
