/- The walks of layer 1's laws, on. -/
import Derived.Test.YtnepgeofdacgkaaSatLaws
set_option linter.unusedVariables false
set_option linter.unusedSimpArgs false
namespace Go.Proofs.Ytnepgeofdacgkaa
open Go.RowKit
attribute [local go_sem] max2_int min2_int max_two min_two

theorem satInt_small {a : Int} (h : a ≤ 9223372036854775807) : satInt a = a := if_pos h
theorem satInt_great {a : Int} (h : ¬ a ≤ 9223372036854775807) : satInt a = 0 := if_neg h
theorem satUint_pos {a : Int} (h : 0 ≤ a) : satUint a = a := if_pos h
theorem satUint_neg {a : Int} (h : ¬ 0 ≤ a) : satUint a = 0 := if_neg h
theorem int_yes (a : Int) (w : World) (h0 : 0 ≤ a) (h : a ≤ 9223372036854775807) :
    Calls Try.prog 23 #[.int .u64 a] w fun e w' => e = .returned (.tuple #[.int .i64 a, .bool true]) ∧ w = w' := by
  have c := int_any a w h0 (by omega)
  rw [satInt_small h, decide_eq_true h] at c
  exact c
theorem int_no (a : Int) (w : World) (h0 : 0 ≤ a) (h1 : a ≤ 18446744073709551615) (h : ¬ a ≤ 9223372036854775807) :
    Calls Try.prog 23 #[.int .u64 a] w fun e w' => e = .returned (.tuple #[.int .i64 0, .bool false]) ∧ w = w' := by
  have c := int_any a w h0 h1
  rw [satInt_great h, decide_eq_false h] at c
  exact c
theorem uint_yes (a : Int) (w : World) (h0 : 0 ≤ a) (h1 : a ≤ 9223372036854775807) :
    Calls Try.prog 24 #[.int .i64 a] w fun e w' => e = .returned (.tuple #[.int .u64 a, .bool true]) ∧ w = w' := by
  have c := uint_any a w (by omega) h1
  rw [satUint_pos h0, decide_eq_true h0] at c
  exact c
theorem uint_no (a : Int) (w : World) (h0 : -9223372036854775808 ≤ a) (h1 : a ≤ 9223372036854775807) (h : ¬ 0 ≤ a) :
    Calls Try.prog 24 #[.int .i64 a] w fun e w' => e = .returned (.tuple #[.int .u64 0, .bool false]) ∧ w = w' := by
  have c := uint_any a w h0 h1
  rw [satUint_neg h, decide_eq_false h] at c
  exact c

theorem satInts_walk (a : Int) (ha : 0 ≤ a ∧ a ≤ 18446744073709551615) (n : Int) (hn : -9223372036854775808 ≤ n ∧ n ≤ 9223372036854775807) (w : World) :
    Calls Try.prog 8 #[.int .u64 a, .int .i64 n] w fun e w' => e = .returned (.bool true) ∧ Below w.heap.size w w' := by
  by_cases c : a ≤ 9223372036854775807
  · by_cases d : 0 ≤ n
    · go_enter Try.func8, Try.ntmps8
      go_wp2_with (first | (go_at_call 12; (with_reducible refine (satAlive_any _).mono ?_); rintro e w0 ⟨rfl, hB0⟩) | (go_at_call 23; (with_reducible refine (int_yes a _ ha.1 (by omega)).mono ?_); rintro e w1 ⟨rfl, rfl⟩) | (go_at_call 24; (with_reducible refine (uint_yes n _ (by omega) hn.2).mono ?_); rintro e w2 ⟨rfl, rfl⟩) | (go_at_call 24; (with_reducible refine (uint_yes a _ ha.1 (by omega)).mono ?_); rintro e w3 ⟨rfl, rfl⟩) | (go_at_call 23; (with_reducible refine (int_yes n _ (by omega) hn.2).mono ?_); rintro e w4 ⟨rfl, rfl⟩))
      go_ret
      exact ⟨rfl, hB0⟩
    · go_enter Try.func8, Try.ntmps8
      go_wp2_with (first | (go_at_call 12; (with_reducible refine (satAlive_any _).mono ?_); rintro e w0 ⟨rfl, hB0⟩) | (go_at_call 23; (with_reducible refine (int_yes a _ ha.1 (by omega)).mono ?_); rintro e w1 ⟨rfl, rfl⟩) | (go_at_call 24; (with_reducible refine (uint_no n _ hn.1 hn.2 (by omega)).mono ?_); rintro e w2 ⟨rfl, rfl⟩) | (go_at_call 24; (with_reducible refine (uint_yes a _ ha.1 (by omega)).mono ?_); rintro e w3 ⟨rfl, rfl⟩))
      go_ret
      exact ⟨rfl, hB0⟩
  · by_cases d : 0 ≤ n
    · go_enter Try.func8, Try.ntmps8
      go_wp2_with (first | (go_at_call 12; (with_reducible refine (satAlive_any _).mono ?_); rintro e w0 ⟨rfl, hB0⟩) | (go_at_call 23; (with_reducible refine (int_no a _ ha.1 ha.2 (by omega)).mono ?_); rintro e w1 ⟨rfl, rfl⟩) | (go_at_call 24; (with_reducible refine (uint_yes n _ (by omega) hn.2).mono ?_); rintro e w2 ⟨rfl, rfl⟩) | (go_at_call 23; (with_reducible refine (int_yes n _ (by omega) hn.2).mono ?_); rintro e w4 ⟨rfl, rfl⟩))
      go_ret
      exact ⟨rfl, hB0⟩
    · go_enter Try.func8, Try.ntmps8
      go_wp2_with (first | (go_at_call 12; (with_reducible refine (satAlive_any _).mono ?_); rintro e w0 ⟨rfl, hB0⟩) | (go_at_call 23; (with_reducible refine (int_no a _ ha.1 ha.2 (by omega)).mono ?_); rintro e w1 ⟨rfl, rfl⟩) | (go_at_call 24; (with_reducible refine (uint_no n _ hn.1 hn.2 (by omega)).mono ?_); rintro e w2 ⟨rfl, rfl⟩))
      go_ret
      exact ⟨rfl, hB0⟩

theorem three_add (a b c : Int) (ha : 0 ≤ a) (hb : 0 ≤ b) (hc : 0 ≤ c) : satAdd (satAdd a b) c = satAdd a (satAdd b c) := by
  unfold satAdd
  repeat' split
  all_goals omega
theorem mul_comm_sat (a b : Int) : satMul a b = satMul b a := by unfold satMul; rw [Int.mul_comm]
theorem pos_mul {a b : Int} (ha : 0 < a) (hb : 0 < b) : 0 < a * b := Int.mul_pos ha hb
theorem three_mul (a b c : Int) (ha : 0 < a) (hb : 0 < b) (hc : 0 < c) : satMul (satMul a b) c = satMul a (satMul b c) := by
  have h1 := pos_mul ha hb
  have h2 := pos_mul hb hc
  have h3 := pos_mul h1 hc
  have h4 : a * (b * c) = a * b * c := (Int.mul_assoc a b c).symm
  have g1 : a * b ≤ a * b * c := by have := Int.mul_le_mul_of_nonneg_left (show 1 ≤ c by omega) (Int.le_of_lt h1); omega
  have g2 : b * c ≤ a * b * c := by have := Int.mul_le_mul_of_nonneg_right (show 1 ≤ a by omega) (Int.le_of_lt h2); rw [← h4]; omega
  have g3 : 18446744073709551615 ≤ 18446744073709551615 * c := by omega
  have g4 : 18446744073709551615 ≤ a * 18446744073709551615 := by omega
  have g5 : ¬ a * b ≤ 18446744073709551615 → (18446744073709551615 * c ≤ 18446744073709551615 → 18446744073709551615 * c = 18446744073709551615) := by omega
  unfold satMul
  by_cases c1 : a * b ≤ 18446744073709551615
  · rw [if_pos c1]
    by_cases c2 : b * c ≤ 18446744073709551615
    · rw [if_pos c2, h4]
    · rw [if_neg c2, if_neg (show ¬ a * b * c ≤ 18446744073709551615 by omega)]
      split <;> omega
  · rw [if_neg c1]
    by_cases c2 : b * c ≤ 18446744073709551615
    · rw [if_pos c2, h4, if_neg (show ¬ a * b * c ≤ 18446744073709551615 by omega)]
      split <;> omega
    · rw [if_neg c2]
      split <;> split <;> omega
theorem add_back (a b : Int) (ha : 0 ≤ a) (hb : 0 ≤ b) (h : satAdd a b ≠ 18446744073709551615) : satSub (satAdd a b) b = a ∧ satSub (satAdd a b) a = b := by
  unfold satAdd at *
  split at h
  · rename_i h1
    rw [if_pos h1]
    unfold satSub
    constructor <;> split <;> omega
  · exact absurd rfl h
end Go.Proofs.Ytnepgeofdacgkaa
