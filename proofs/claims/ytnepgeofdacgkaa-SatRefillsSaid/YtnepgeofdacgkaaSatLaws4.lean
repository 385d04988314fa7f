/- The walks of layer 1's laws: SatBack, SatOrder, SatParts, SatRefills. -/
import Derived.Test.YtnepgeofdacgkaaSatLaws3
set_option linter.unusedVariables false
set_option linter.unusedSimpArgs false
namespace Go.Proofs.Ytnepgeofdacgkaa
open Go.RowKit
attribute [local go_sem] max2_int min2_int max_two min_two

theorem shl_bd (a n : Int) (h0 : 0 ≤ a) (h1 : a ≤ 18446744073709551615) (hn : 0 ≤ n) : 0 ≤ satShl a n ∧ satShl a n ≤ 18446744073709551615 := by
  rw [← dbl_shl a n h0 h1 hn]; exact dbl_bd a _ h0
theorem shl_back (a n : Int) (h0 : 0 ≤ a) (h1 : a ≤ 18446744073709551615) (hn : 0 ≤ n) (h : satShl a n ≠ 18446744073709551615) : satShr (satShl a n) n = a := by
  unfold satShl at *
  unfold satShr
  by_cases hz : n ≤ 0
  · rw [if_pos hz, if_pos (Or.inl hz)]
  rw [if_neg hz]
  by_cases ha : a = 0
  · rw [if_pos (.inr ha), ha]; simp
  rw [if_neg (by omega)] at h ⊢
  by_cases hl : 64 - bitL a < n
  · rw [if_pos hl] at h; exact absurd rfl h
  · rw [if_neg hl]
    exact Int.mul_ediv_cancel a (by have := pow_pos' n.toNat; omega)
theorem shr_log (a : Int) (h0 : 0 ≤ a) (h1 : a ≤ 18446744073709551615) : satShr a (bitL a) = 0 := by
  unfold satShr
  by_cases ha : a = 0
  · subst ha; decide
  obtain ⟨h2, h3, h4⟩ := bitL_le_pow a (by omega) h1
  unfold bitL
  rw [if_neg (by omega)]
  generalize Lib.bitLen a.toNat = L at *
  have h5 : ((2 ^ L : Nat) : Int) = (2 : Int) ^ L := by simp
  exact Int.ediv_eq_zero_of_lt h0 (by simp only [Int.toNat_natCast]; rw [← h5]; omega)
theorem shr_log1 (a : Int) (h0 : 0 < a) (h1 : a ≤ 18446744073709551615) : 1 ≤ bitL a ∧ satShr a (bitL a - 1) = 1 := by
  obtain ⟨h2, h3, h4⟩ := bitL_le_pow a h0 h1
  unfold satShr bitL
  generalize Lib.bitLen a.toNat = L at *
  refine ⟨by omega, ?_⟩
  have h5 : ((2 ^ (L - 1) : Nat) : Int) = (2 : Int) ^ (L - 1) := by simp
  have h6 : (2 : Nat) ^ L = 2 ^ (L - 1) * 2 := by rw [← Nat.pow_succ]; congr 1; omega
  by_cases hL : L = 1
  · subst hL
    simp at h4 h3 ⊢
    omega
  · rw [if_neg (by omega), show ((L : Int) - 1).toNat = L - 1 by omega, ← h5]
    generalize (2 : Nat) ^ (L - 1) = p at *
    have : a / (p : Int) = 1 := by
      rw [Int.ediv_eq_iff_of_pos (by omega)]
      omega
    exact this

set_option maxHeartbeats 800000 in
theorem satBack_walk (a : Int) (ha : 0 ≤ a ∧ a ≤ 18446744073709551615) (n : Int) (hn : -9223372036854775808 ≤ n ∧ n ≤ 9223372036854775807) (w : World) :
    Calls Try.prog 11 #[.int .u64 a, .int .i64 n] w fun e w' => e = .returned (.bool true) ∧ Below w.heap.size w w' := by
  by_cases c1 : n < 0
  · go_enter Try.func11, Try.ntmps11
    go_wp2_with (first | (go_at_call 12; (with_reducible refine (satAlive_any _).mono ?_); rintro e w0 ⟨rfl, hB0⟩; obtain ⟨hc0, hf0⟩ := bl_cells hB0))
    go_ret
    exact ⟨rfl, hB0⟩
  by_cases c2 : 63 < n
  · go_enter Try.func11, Try.ntmps11
    go_wp2_with (first | (go_at_call 12; (with_reducible refine (satAlive_any _).mono ?_); rintro e w0 ⟨rfl, hB0⟩; obtain ⟨hc0, hf0⟩ := bl_cells hB0))
    go_ret
    exact ⟨rfl, hB0⟩
  have hs := shl_bd a n ha.1 ha.2 (by omega)
  have hl := bitL_bd a ha.1 ha.2
  have e1 := (beq_true (shr_log a ha.1 ha.2)).1
  rcases (by
      by_cases h : satShl a n = 18446744073709551615
      · exact .inl (beq_true h).2
      · exact .inr ⟨(beq_false h).2, (beq_true (shl_back a n ha.1 ha.2 (by omega) h)).2⟩ : (satShl a n != 18446744073709551615) = false ∨ ((satShl a n != 18446744073709551615) = true ∧ (satShr (satShl a n) n != a) = false)) with s1 | ⟨s1, s2⟩
  · by_cases z : a = 0
    · have z1 := (beq_true z).1
      clear z
      go_enter Try.func11, Try.ntmps11
      go_wp2_with (first | (go_at_call 12; (with_reducible refine (satAlive_any _).mono ?_); rintro e w0 ⟨rfl, hB0⟩; obtain ⟨hc0, hf0⟩ := bl_cells hB0) | (go_at_call 25; (with_reducible refine (shl_any a n _ ha.1 ha.2 hn.1 hn.2).mono ?_); rintro e w1 ⟨rfl, rfl⟩) | (go_at_call 26; (with_reducible refine (shr_any (satShl a n) n _ hs.1 hs.2 hn.1 hn.2).mono ?_); rintro e w2 ⟨rfl, rfl⟩) | (go_at_call 29; (with_reducible refine (log_any a _ ha.1 ha.2).mono ?_); rintro e w3 ⟨rfl, rfl⟩) | (go_at_call 26; (with_reducible refine (shr_any a (bitL a) _ ha.1 ha.2 (by omega) (by omega)).mono ?_); rintro e w4 ⟨rfl, rfl⟩) | (go_at_call 26; (with_reducible refine (shr_any a (bitL a - 1) _ ha.1 ha.2 (by omega) (by omega)).mono ?_); rintro e w5 ⟨rfl, rfl⟩))
      go_ret
      exact ⟨rfl, hB0⟩
    · have z1 := (beq_false z).1
      obtain ⟨z2, z3⟩ := shr_log1 a (by omega) ha.2
      have z4 := (beq_true z3).1
      clear z3 z
      go_enter Try.func11, Try.ntmps11
      go_wp2_with (first | (go_at_call 12; (with_reducible refine (satAlive_any _).mono ?_); rintro e w0 ⟨rfl, hB0⟩; obtain ⟨hc0, hf0⟩ := bl_cells hB0) | (go_at_call 25; (with_reducible refine (shl_any a n _ ha.1 ha.2 hn.1 hn.2).mono ?_); rintro e w1 ⟨rfl, rfl⟩) | (go_at_call 26; (with_reducible refine (shr_any (satShl a n) n _ hs.1 hs.2 hn.1 hn.2).mono ?_); rintro e w2 ⟨rfl, rfl⟩) | (go_at_call 29; (with_reducible refine (log_any a _ ha.1 ha.2).mono ?_); rintro e w3 ⟨rfl, rfl⟩) | (go_at_call 26; (with_reducible refine (shr_any a (bitL a) _ ha.1 ha.2 (by omega) (by omega)).mono ?_); rintro e w4 ⟨rfl, rfl⟩) | (go_at_call 26; (with_reducible refine (shr_any a (bitL a - 1) _ ha.1 ha.2 (by omega) (by omega)).mono ?_); rintro e w5 ⟨rfl, rfl⟩))
      go_ret
      exact ⟨rfl, hB0⟩
  · by_cases z : a = 0
    · have z1 := (beq_true z).1
      clear z
      go_enter Try.func11, Try.ntmps11
      go_wp2_with (first | (go_at_call 12; (with_reducible refine (satAlive_any _).mono ?_); rintro e w0 ⟨rfl, hB0⟩; obtain ⟨hc0, hf0⟩ := bl_cells hB0) | (go_at_call 25; (with_reducible refine (shl_any a n _ ha.1 ha.2 hn.1 hn.2).mono ?_); rintro e w1 ⟨rfl, rfl⟩) | (go_at_call 26; (with_reducible refine (shr_any (satShl a n) n _ hs.1 hs.2 hn.1 hn.2).mono ?_); rintro e w2 ⟨rfl, rfl⟩) | (go_at_call 29; (with_reducible refine (log_any a _ ha.1 ha.2).mono ?_); rintro e w3 ⟨rfl, rfl⟩) | (go_at_call 26; (with_reducible refine (shr_any a (bitL a) _ ha.1 ha.2 (by omega) (by omega)).mono ?_); rintro e w4 ⟨rfl, rfl⟩) | (go_at_call 26; (with_reducible refine (shr_any a (bitL a - 1) _ ha.1 ha.2 (by omega) (by omega)).mono ?_); rintro e w5 ⟨rfl, rfl⟩))
      go_ret
      exact ⟨rfl, hB0⟩
    · have z1 := (beq_false z).1
      obtain ⟨z2, z3⟩ := shr_log1 a (by omega) ha.2
      have z4 := (beq_true z3).1
      clear z3 z
      go_enter Try.func11, Try.ntmps11
      go_wp2_with (first | (go_at_call 12; (with_reducible refine (satAlive_any _).mono ?_); rintro e w0 ⟨rfl, hB0⟩; obtain ⟨hc0, hf0⟩ := bl_cells hB0) | (go_at_call 25; (with_reducible refine (shl_any a n _ ha.1 ha.2 hn.1 hn.2).mono ?_); rintro e w1 ⟨rfl, rfl⟩) | (go_at_call 26; (with_reducible refine (shr_any (satShl a n) n _ hs.1 hs.2 hn.1 hn.2).mono ?_); rintro e w2 ⟨rfl, rfl⟩) | (go_at_call 29; (with_reducible refine (log_any a _ ha.1 ha.2).mono ?_); rintro e w3 ⟨rfl, rfl⟩) | (go_at_call 26; (with_reducible refine (shr_any a (bitL a) _ ha.1 ha.2 (by omega) (by omega)).mono ?_); rintro e w4 ⟨rfl, rfl⟩) | (go_at_call 26; (with_reducible refine (shr_any a (bitL a - 1) _ ha.1 ha.2 (by omega) (by omega)).mono ?_); rintro e w5 ⟨rfl, rfl⟩))
      go_ret
      exact ⟨rfl, hB0⟩

theorem cross_turn (a b c d : Int) : satCross a b c d = -satCross c d a b := by
  unfold satCross cmpU
  generalize a * b = p
  generalize c * d = q
  repeat' split
  all_goals omega
theorem cross_swap (a b c d : Int) : satCross b a d c = satCross a b c d := by unfold satCross; rw [Int.mul_comm b a, Int.mul_comm d c]
theorem cross_same (a b : Int) : satCross a b a b = 0 := by unfold satCross cmpU; simp
theorem more_mul {a b m : Int} (ha : 0 ≤ a) (ha' : a ≤ 18446744073709551615) (hb : 0 ≤ b) (hm : 0 ≤ m) : a * b ≤ satAdd a m * b := by
  refine Int.mul_le_mul_of_nonneg_right ?_ hb
  unfold satAdd; split <;> omega
theorem cross_more {a b m : Int} (ha : 0 ≤ a) (ha' : a ≤ 18446744073709551615) (hb : 0 ≤ b) (hm : 0 ≤ m) : satCross a b (satAdd a m) b ≤ 0 := by
  have := more_mul ha ha' hb hm
  unfold satCross cmpU
  generalize a * b = p at *
  generalize satAdd a m * b = q at *
  repeat' split
  all_goals omega
theorem mul_more {a b m : Int} (ha : 0 ≤ a) (ha' : a ≤ 18446744073709551615) (hb : 0 ≤ b) (hm : 0 ≤ m) : satMul a b ≤ satMul (satAdd a m) b := by
  have := more_mul ha ha' hb hm
  unfold satMul
  generalize a * b = p at *
  generalize satAdd a m * b = q at *
  repeat' split
  all_goals omega
theorem cross_bd (a b c d : Int) : -1 ≤ satCross a b c d ∧ satCross a b c d ≤ 1 := by
  unfold satCross cmpU
  repeat' split
  all_goals omega

set_option maxHeartbeats 800000 in
theorem satOrder_walk (a : Int) (ha : 0 ≤ a ∧ a ≤ 18446744073709551615) (b : Int) (hb : 0 ≤ b ∧ b ≤ 18446744073709551615) (c : Int) (hc : 0 ≤ c ∧ c ≤ 18446744073709551615) (d : Int) (hd : 0 ≤ d ∧ d ≤ 18446744073709551615) (m : Int) (hm : 0 ≤ m ∧ m ≤ 18446744073709551615) (w : World) :
    Calls Try.prog 5 #[.agg #[.int .u64 a, .int .u64 b, .int .u64 c, .int .u64 d], .int .u64 m] w fun e w' => e = .returned (.bool true) ∧ Below w.heap.size w w' := by
  have ham := satAdd_bd ha.1 hm.1
  have e1 := Lib.hid (cross_turn a b c d)
  have b1 := cross_bd c d a b
  have e2 := (beq_true (cross_swap a b c d).symm).1
  have e3 := (beq_true (cross_same a b)).1
  have e4 := cross_more ha.1 ha.2 hb.1 hm.1
  have e5 := mul_more ha.1 ha.2 hb.1 hm.1
  have e6 : (satCross a b c d == -satCross c d a b) = true := (beq_true e1.out).1
  go_enter Try.func5, Try.ntmps5
  go_wp2_with (first | (go_at_call 12; (with_reducible refine (satAlive_any _).mono ?_); rintro e w0 ⟨rfl, hB0⟩; obtain ⟨hc0, hf0⟩ := bl_cells hB0))
  go_quiet (fail)
  go_wp2_with (first | (go_at_call 15; (with_reducible refine (cross_any a b c d _ ha.1 ha.2 hb.1 hb.2 hc.1 hc.2 hd.1 hd.2).mono ?_); rintro e w1 ⟨rfl, hB1⟩) | (go_at_call 15; (with_reducible refine (cross_any c d a b _ hc.1 hc.2 hd.1 hd.2 ha.1 ha.2 hb.1 hb.2).mono ?_); rintro e w2 ⟨rfl, hB2⟩) | (go_at_call 15; (with_reducible refine (cross_any b a d c _ hb.1 hb.2 ha.1 ha.2 hd.1 hd.2 hc.1 hc.2).mono ?_); rintro e w3 ⟨rfl, hB3⟩) | (go_at_call 15; (with_reducible refine (cross_any a b a b _ ha.1 ha.2 hb.1 hb.2 ha.1 ha.2 hb.1 hb.2).mono ?_); rintro e w4 ⟨rfl, hB4⟩) | (go_at_call 15; (with_reducible refine (cross_any a b (satAdd a m) b _ ha.1 ha.2 hb.1 hb.2 ham.1 ham.2 hb.1 hb.2).mono ?_); rintro e w5 ⟨rfl, hB5⟩) | (go_at_call 17; (with_reducible refine (add_any a m _ ha.1 ha.2 hm.1 hm.2).mono ?_); rintro e w6 ⟨rfl, rfl⟩) | (go_at_call 18; (with_reducible refine (mul_any a b _ ha.1 ha.2 hb.1 hb.2).mono ?_); rintro e w7 ⟨rfl, rfl⟩) | (go_at_call 18; (with_reducible refine (mul_any (satAdd a m) b _ ham.1 ham.2 hb.1 hb.2).mono ?_); rintro e w8 ⟨rfl, rfl⟩))
  go_ret
  exact ⟨rfl, by repeat (with_reducible first | exact Below.refl _ _ | apply bl_alloc | apply bl_drewN | apply bl_drew | refine bl_then ?_ hB0 | refine bl_then ?_ hB1 | refine bl_then ?_ hB2 | refine bl_then ?_ hB3 | refine bl_then ?_ hB4 | refine bl_then ?_ hB5)⟩
end Go.Proofs.Ytnepgeofdacgkaa
