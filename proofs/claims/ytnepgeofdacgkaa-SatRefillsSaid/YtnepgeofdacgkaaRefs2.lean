/- Contracts of the reference's Shl, Shr and Log: loops. -/
import Derived.Test.YtnepgeofdacgkaaRefs
set_option linter.unusedVariables false
set_option linter.unusedSimpArgs false
namespace Go.Proofs.Ytnepgeofdacgkaa
open Go.RowKit

/-- Doubled k times, cut off at the greatest number. -/
def dbl (a : Int) (k : Nat) : Int := if a * 2 ^ k ≤ 18446744073709551615 then a * 2 ^ k else 18446744073709551615
theorem dbl_zero (a : Int) (h : a ≤ 18446744073709551615) : dbl a 0 = a := by unfold dbl; simp; omega
theorem dbl_bd (a : Int) (k : Nat) (h0 : 0 ≤ a) : 0 ≤ dbl a k ∧ dbl a k ≤ 18446744073709551615 := by
  have := Int.mul_nonneg h0 (Int.le_of_lt (pow_pos' k))
  unfold dbl; split <;> omega
theorem dbl_succ (a : Int) (k : Nat) (h0 : 0 ≤ a) : satAdd (dbl a k) (dbl a k) = dbl a (k + 1) := by
  have h1 := Int.mul_nonneg h0 (Int.le_of_lt (pow_pos' k))
  have h2 : a * 2 ^ (k + 1) = 2 * (a * 2 ^ k) := by rw [Int.pow_succ, ← Int.mul_assoc, Int.mul_comm]
  unfold dbl satAdd
  rw [h2]
  generalize a * 2 ^ k = p at *
  repeat' split
  all_goals omega

theorem bitL_le_pow (a : Int) (h0 : 0 < a) (h1 : a ≤ 18446744073709551615) : 1 ≤ Lib.bitLen a.toNat ∧ (2 : Nat) ^ (Lib.bitLen a.toNat - 1) ≤ a.toNat ∧ a.toNat < 2 ^ Lib.bitLen a.toNat :=
  Lib.bitLenAux_bounds 64 a.toNat (by omega) (by omega)

theorem dbl_far (a n : Int) (k : Nat) (h0 : 0 < a) (h1 : a ≤ 18446744073709551615) (hk : 64 - bitL a < k) : dbl a k = 18446744073709551615 := by
  obtain ⟨h2, h3, _⟩ := bitL_le_pow a h0 h1
  unfold bitL at hk
  generalize Lib.bitLen a.toNat = L at *
  have h4 : 2 ^ (L - 1) * 2 ^ k ≤ a.toNat * 2 ^ k := Nat.mul_le_mul_right _ h3
  rw [← Nat.pow_add] at h4
  have h5 : (2 : Nat) ^ 64 ≤ 2 ^ (L - 1 + k) := Nat.pow_le_pow_right (by decide) (by omega)
  have h6 : ((a.toNat * 2 ^ k : Nat) : Int) = a * 2 ^ k := by
    rw [Int.natCast_mul, Int.toNat_of_nonneg (by omega)]; simp
  unfold dbl
  rw [if_neg (by omega)]
theorem dbl_shl (a n : Int) (h0 : 0 ≤ a) (h1 : a ≤ 18446744073709551615) (hn : 0 ≤ n) : dbl a (min n 64).toNat = satShl a n := by
  unfold satShl
  by_cases ha : a = 0
  · rw [if_pos (.inr ha), ha]
    unfold dbl; simp
  by_cases hz : n ≤ 0
  · rw [if_pos (.inl hz), show min n 64 = 0 by omega]
    exact dbl_zero a h1
  rw [if_neg (by omega)]
  have hb := bitL_bd a h0 h1
  have hb1 : 1 ≤ bitL a := by have := (bitL_le_pow a (by omega) h1).1; unfold bitL; omega
  by_cases hl : 64 - bitL a < n
  · rw [if_pos hl]
    exact dbl_far a n _ (by omega) h1 (by omega)
  · rw [if_neg hl, show min n 64 = n by omega]
    have := bitL_up a n (by omega) h1 (by omega) (by omega)
    unfold dbl
    rw [if_pos this]

set_option maxHeartbeats 400000 in
theorem rshl_any (a n : Int) (w : World) (h0 : 0 ≤ a) (h1 : a ≤ 18446744073709551615) (hn : -9223372036854775808 ≤ n) (hn' : n ≤ 9223372036854775807) :
    Calls Try.prog 27 #[.int .u64 a, .int .i64 n] w fun e w' => e = .returned (.int .u64 (satShl a n)) ∧ Below w.heap.size w w' := by
  by_cases hz : n ≤ 0
  · have e : satShl a n = a := by unfold satShl; rw [if_pos (.inl hz)]
    rw [e]
    clear e
    have hz0 : decide (0 < n) = false := by simp; omega
    go_enter Try.func27, Try.ntmps27
    go_wp2
    refine wp_loop_rounds 1 ?_
    rw [rounds_succ]
    go_wp2
    go_ret
    exact ⟨rfl, Below.refl _ _⟩
  rw [← dbl_shl a n h0 h1 (by omega)]
  obtain ⟨m, hm, hm64⟩ : ∃ m : Nat, (min n 64).toNat = m ∧ m ≤ 64 := ⟨_, rfl, by omega⟩
  have H0 := Lib.hid (dbl_zero a h1)
  rw [hm]
  replace hm := Lib.hid hm
  go_enter Try.func27, Try.ntmps27
  go_wp2
  go_loopw [0, 5] (fun v i wr => ∃ k : Nat, k ≤ m ∧ i = .int .i64 k ∧ v = .int .u64 (dbl a k) ∧ Below w.heap.size w wr) (fun _ i _ => m - (intOf i).toNat)
  case atStart => exact ⟨0, Nat.zero_le _, rfl, by rw [H0.out], Below.refl _ _⟩
  case round =>
    obtain ⟨k, hk, rfl, rfl, hB⟩ := hrel
    have hd := dbl_bd a k h0
    have hs := Lib.hid (dbl_succ a k h0)
    by_cases hlt : k < m
    · have c1 : decide ((k : Int) < n) = true := by have := hm.out; simp; omega
      have c2 : decide ((k : Int) < 64) = true := by simp; omega
      go_wp2_with (go_at_call 19; (with_reducible refine (radd_any (dbl a k) (dbl a k) _ hd.1 hd.2 hd.1 hd.2).mono ?_); rintro e w1 ⟨rfl, hB1⟩)
      go_roundw
      case rel => exact ⟨k + 1, by omega, by go_num, by rw [hs.out], bl_then hB hB1⟩
      case measure => simp [intOf]; omega
    · obtain rfl : k = m := by omega
      by_cases c1 : (k : Int) < n
      · have c2 : decide ((k : Int) < 64) = false := by have := hm.out; simp; omega
        go_wp2
        go_ret
        exact ⟨rfl, hB⟩
      · go_wp2
        go_ret
        exact ⟨rfl, hB⟩

theorem shr_step (a : Int) (k : Nat) : a / 2 ^ k / 2 = a / 2 ^ (k + 1) := by
  rw [Int.ediv_ediv_of_nonneg (Int.le_of_lt (pow_pos' k)), Int.pow_succ]
theorem shr_bd (a : Int) (k : Nat) (h0 : 0 ≤ a) (h1 : a ≤ 18446744073709551615) : 0 ≤ a / 2 ^ k ∧ a / 2 ^ k ≤ 18446744073709551615 :=
  ⟨Int.ediv_nonneg h0 (Int.le_of_lt (pow_pos' k)), Int.le_trans (Int.ediv_le_self _ h0) h1⟩
theorem shr_end (a n : Int) (h0 : 0 ≤ a) (h1 : a ≤ 18446744073709551615) (hn : 0 < n) : a / 2 ^ (min n 64).toNat = satShr a n := by
  unfold satShr
  rw [if_neg (by omega)]
  by_cases h : n ≤ 64
  · rw [show min n 64 = n by omega]
  · rw [div_pow_far a _ h0 h1 (by omega), div_pow_far a n.toNat h0 h1 (by omega)]
set_option maxHeartbeats 400000 in
theorem rshr_any (a n : Int) (w : World) (h0 : 0 ≤ a) (h1 : a ≤ 18446744073709551615) (hn : -9223372036854775808 ≤ n) (hn' : n ≤ 9223372036854775807) :
    Calls Try.prog 28 #[.int .u64 a, .int .i64 n] w fun e w' => e = .returned (.int .u64 (satShr a n)) ∧ w = w' := by
  by_cases hz : n ≤ 0
  · have e : satShr a n = a := by unfold satShr; rw [if_pos hz]
    rw [e]
    clear e
    have hz0 : decide (0 < n) = false := by simp; omega
    go_enter Try.func28, Try.ntmps28
    go_wp2
    refine wp_loop_rounds 1 ?_
    rw [rounds_succ]
    go_wp2
    go_ret
    exact ⟨rfl, rfl⟩
  rw [← shr_end a n h0 h1 (by omega)]
  obtain ⟨m, hm, hm64⟩ : ∃ m : Nat, (min n 64).toNat = m ∧ m ≤ 64 := ⟨_, rfl, by omega⟩
  rw [hm]
  replace hm := Lib.hid hm
  go_enter Try.func28, Try.ntmps28
  go_wp2
  go_loop [0, 5] (fun v i => ∃ k : Nat, k ≤ m ∧ i = .int .i64 k ∧ v = .int .u64 (a / 2 ^ k)) (fun _ i => m - (intOf i).toNat)
  case atStart => exact ⟨0, Nat.zero_le _, rfl, by simp⟩
  case round =>
    obtain ⟨k, hk, rfl, rfl⟩ := hrel
    have hd := shr_bd a k h0 h1
    have hs := Lib.hid (shr_step a k)
    by_cases hlt : k < m
    · have c1 : decide ((k : Int) < n) = true := by have := hm.out; simp; omega
      have c2 : decide ((k : Int) < 64) = true := by simp; omega
      go_wp2
      go_round
      case rel => exact ⟨k + 1, by omega, by go_num, by rw [hs.out]⟩
      case measure => simp [intOf]; omega
    · obtain rfl : k = m := by omega
      by_cases c1 : (k : Int) < n
      · have c2 : decide ((k : Int) < 64) = false := by have := hm.out; simp; omega
        go_wp2
        go_ret
        exact ⟨rfl, rfl⟩
      · go_wp2
        go_ret
        exact ⟨rfl, rfl⟩

theorem log_step (a : Int) (k : Nat) (h0 : 0 ≤ a) (h1 : a ≤ 18446744073709551615) (h : 0 < a / 2 ^ k) : (k : Int) + 1 ≤ bitL a := by
  rcases (by omega : 0 < a ∨ a ≤ 0) with ha | ha
  · obtain ⟨_, _, h3⟩ := bitL_le_pow a ha h1
    unfold bitL
    generalize Lib.bitLen a.toNat = L at *
    rcases Nat.lt_or_ge k L with hk | hk
    · omega
    · exfalso
      have h4 : (2 : Nat) ^ L ≤ 2 ^ k := Nat.pow_le_pow_right (by decide) hk
      have h5 : ((2 ^ k : Nat) : Int) = (2 : Int) ^ k := by simp
      have : a / 2 ^ k = 0 := Int.ediv_eq_zero_of_lt h0 (by rw [← h5]; omega)
      omega
  · obtain rfl : a = 0 := by omega
    simp at h
theorem log_end (a : Int) (k : Nat) (h0 : 0 ≤ a) (h1 : a ≤ 18446744073709551615) (hk : (k : Int) ≤ bitL a) (h : a / 2 ^ k = 0) : (k : Int) = bitL a := by
  rcases (by omega : 0 < a ∨ a ≤ 0) with ha | ha
  · obtain ⟨h2, h3, _⟩ := bitL_le_pow a ha h1
    unfold bitL at *
    generalize Lib.bitLen a.toNat = L at *
    rcases Nat.lt_or_ge k L with hkl | hkl
    · exfalso
      have h4 : (2 : Nat) ^ k ≤ 2 ^ (L - 1) := Nat.pow_le_pow_right (by decide) (by omega)
      have h5 : ((2 ^ k : Nat) : Int) = (2 : Int) ^ k := by simp
      have h6 : (1 : Int) ≤ a / 2 ^ k := by
        rw [Int.le_ediv_iff_mul_le (pow_pos' k), ← h5]; omega
      omega
    · omega
  · obtain rfl : a = 0 := by omega
    have : bitL 0 = 0 := by decide
    omega
set_option maxHeartbeats 400000 in
theorem rlog_any (a : Int) (w : World) (h0 : 0 ≤ a) (h1 : a ≤ 18446744073709551615) :
    Calls Try.prog 30 #[.int .u64 a] w fun e w' => e = .returned (.int .i64 (bitL a)) ∧ w = w' := by
  have hb := bitL_bd a h0 h1
  go_enter Try.func30, Try.ntmps30
  go_wp2
  go_loop [0, 3] (fun v i => ∃ k : Nat, (k : Int) ≤ bitL a ∧ i = .int .i64 k ∧ v = .int .u64 (a / 2 ^ k)) (fun _ i => 64 - (intOf i).toNat)
  case atStart => exact ⟨0, hb.1, rfl, by simp⟩
  case round =>
    obtain ⟨k, hk, rfl, rfl⟩ := hrel
    have hd := shr_bd a k h0 h1
    have hs := Lib.hid (shr_step a k)
    by_cases hlt : 0 < a / 2 ^ k
    · have hl := log_step a k h0 h1 hlt
      go_wp2
      go_round
      case rel => exact ⟨k + 1, by omega, by go_num, by rw [hs.out]⟩
      case measure => simp [intOf]; omega
    · have he := Lib.hid (log_end a k h0 h1 hk (by omega))
      go_wp2
      go_ret
      exact ⟨ret_i64 he.out, rfl⟩
end Go.Proofs.Ytnepgeofdacgkaa
